/- Lemmas and contracts for the proof of this seat's statements (Par2). No condition. -/
import Derived.Test.YtnkldldojalklaaEPar
set_option linter.all false
namespace Go.Mc
variable {F : Fence} {P : Program} {n : Nat} {D : List Deferred} {L : List (Nat × Value)} {M : World → Prop}
variable {Q : Exit → Act → World → Prop} {w0 : World} {own : List Nat}
def AllP : List Nat → (Nat → Prop) → Prop
  | [], _ => True
  | i :: r, p => p i ∧ AllP r p
theorem AllP.mem : ∀ {l : List Nat} {p : Nat → Prop}, AllP l p → ∀ i ∈ l, p i
  | _ :: _, _, h, i, hi => by
    rcases List.mem_cons.1 hi with rfl | hi
    · exact h.1
    · exact h.2.mem i hi
abbrev dsL (dss : List (List Nat)) (i : Nat) : List Nat := dss.getD i []
abbrev vL (Vs : List ((Nat → Gh) → Value)) (i : Nat) (x : Nat → Gh) : Value := Vs.getD i (fun _ => undef) x
abbrev kL (Ks : List ((Nat → Gh) → List Ch)) (i : Nat) (x : Nat → Gh) : List Ch := Ks.getD i (fun _ => []) x
theorem wc_parL {id : Nat} {l : List Oper} {L0 : List (Nat × Value)} {H0 : List Ch} (par fl : List Nat) (dss : List (List Nat)) (rest : List (Nat × PK)) (Vs : List ((Nat → Gh) → Value)) (Ks : List ((Nat → Gh) → List Ch))
    [Wide F] (hm : P.follows .mixedOrders = true) (l0 : List Nat) (hl0 : L0.map (·.1) = l0) (hp : (plainB l.toArray && parB l.toArray n par fl (dsL dss) l0 && planB l.toArray rest (par.foldl (fun a i => a.setIfInBounds i true) (Array.replicate l.length false)) && par.length + rest.length == l.length) = true)
    (hop : AllP par fun i => ∃ o, l.toArray[i]? = some o ∧ ∀ x, PEff F P o (Lof l.toArray (vL Vs) (dsL dss i) x ++ L0) (Mem w0 own (Kof (kL Ks) (dsL dss i) x ++ H0)) (fun g => vL Vs i (upd x i g)) (fun g => kL Ks i (upd x i g)))
    (hfl : AllP fl fun f => ∃ o, l.toArray[f]? = some o ∧ ∀ x, Yld P o (Lof l.toArray (vL Vs) (dsL dss f) x ++ L0) (fun _ => True) (vL Vs f x) ∧ kL Ks f x = [])
    (hloc : AllP par fun j => ∀ x x', (∀ i ∈ j :: dsL dss j, x i = x' i) → vL Vs j x = vL Vs j x' ∧ kL Ks j x = kL Ks j x')
    (h : ∀ x, WP F P l.toArray Q n D (fun _ => True) rest (Lof l.toArray (vL Vs) par x ++ L0) (Mem w0 own (Kof (kL Ks) par x ++ H0))) :
    WC F P Q n D (.region id l.toArray true) L0 (Mem w0 own H0) :=
  wc_par par fl (dsL dss) rest (vL Vs) (kL Ks) hm (by rw [hl0]; exact hp) (fun i hi o ho x => by
    obtain ⟨o', ho', h'⟩ := hop.mem i hi
    obtain rfl : o' = o := Option.some.inj (ho'.symm.trans ho)
    exact h' x) (fun i hi o ho x => by
    obtain ⟨o', ho', h'⟩ := hfl.mem i hi
    obtain rfl : o' = o := Option.some.inj (ho'.symm.trans ho)
    exact h' x) (fun j hj => hloc.mem j hj) h
section
variable {d : Option Tmp} {ty : TypeId} {pos : String} {af : Array Edge} {g : Option (Nat × Bool)} {V : Gh → Value} {K : Gh → List Ch}
theorem pe_eff {α : Sort _} {V0 : α → Value} {K0 : α → List Ch} {o : Oper} (emb : α → Gh) (h : ∀ w1, Eff F P o L (Mem w1 [] []) V0 (fun y => Mem w1 [] (K0 y))) (hV : ∀ y, V (emb y) = V0 y) (hK : ∀ y, K (emb y) = K0 y) : PEff F P o L M V K := .mk fun w1 _ => .mk fun ρ w he hw => by
  subst hw
  have h0 := (h w).out ρ w he (Mem.refl w)
  have mono : ∀ e w', Ret V0 (fun y => Mem w [] (K0 y)) e w' → Ret V (fun g w' => Mem w [] (K g) w') e w' := fun e w' ⟨y, h1, h2⟩ => ⟨emb y, by rw [h1, hV], (show Mem w [] (K (emb y)) w' from (hK y).symm ▸ h2)⟩
  generalize (execOp ρ o).run P w = r at *
  cases r with
  | ok x w' =>
    cases x <;> simp only [effUpon] at h0 ⊢
    case value v => obtain ⟨y, h1, h2⟩ := h0; exact ⟨emb y, by rw [h1, hV], (show Mem w [] (K (emb y)) w' from (hK y).symm ▸ h2)⟩
    case skip => obtain ⟨y, h1, h2⟩ := h0; exact ⟨emb y, by rw [hV, h1], (show Mem w [] (K (emb y)) w' from (hK y).symm ▸ h2)⟩
    case enter f args => exact CallsIn.mono h0 mono
    case round l f tmps assign body => exact RoundIn.mono h0 mono
  | halt x w' => simp only [effUpon] at h0
theorem pe_y {o : Oper} {v : Value} (h : Yld P o L M v) (hV : ∀ g, V g = v) (hK : ∀ g, K g = []) : PEff F P o L M V K := .mk fun w1 hM => .mk fun ρ w he hw => by
  subst hw
  rw [h.out ρ w he hM]
  exact ⟨(0, none, 0), (hV _).symm, (show Mem w [] (K (0, none, 0)) w from (hK _).symm ▸ Mem.refl w)⟩
theorem y_re {o : Oper} {v v' : Value} (e : v = v') (h : Yld P o L M v) : Yld P o L M v' := e ▸ h
theorem pe_call [Wide F] {α : Sort _} {V0 : α → Value} {K0 : α → List Ch} {f : FuncId} {args : Array Operand} {tys : Array TypeId} {vs : List Value} (emb : α → Gh) (hf : cfB P f = true) (ha : evs L args.toList = some vs)
    (hc : ∀ w, M w → Calls P f vs.toArray w (Ret V0 (fun y => Mem w [] (K0 y)))) (hV : ∀ y, V (emb y) = V0 y) (hK : ∀ y, K (emb y) = K0 y) :
    PEff F P ⟨d, .call ⟨.value (.func f), args, tys⟩, ty, pos, af, g⟩ L M V K := .mk fun w1 hM => by
  refine e_call hf ha fun w e => ?_
  subst e
  exact (hc w hM).mono fun e w' ⟨y, h1, h2⟩ => ⟨emb y, by rw [h1, hV], (show Mem w [] (K (emb y)) w' from (hK y).symm ▸ h2)⟩
end
theorem Mem.sl_le {w0 w : World} {own : List Nat} {H : List Ch} (m : Mem w0 own H w) {i : Nat} {ad : Option Addr} {n cap : Nat} {E : TypeId} {sz : Nat} {xs : List Value} (hi : H[i]? = some (.sl ad n cap E sz xs)) : n ≤ cap := by
  have hs := m.sat _ (List.mem_of_getElem? hi)
  cases ad with
  | none => obtain ⟨rfl, rfl, _⟩ := hs; exact Nat.le_refl _
  | some a =>
    cases cap with
    | zero => obtain ⟨rfl, _, _⟩ := hs; exact Nat.le_refl _
    | succ cap => exact hs.2.2.1
theorem Mem.rd_arrn {α : Type} {f : α → Value} {w0 w : World} {own : List Nat} {H : List Ch} {xs : List α} (m : Mem w0 own H w) {i b : Nat} {E : TypeId} {fz : Nat × Nat} (hi : H[i]? = some (.blk b (.cells (arr f xs) E fz))) {n : Nat} (hn : xs.length = n) : Rd w (some ⟨b, 0, none⟩) n 1 (xs.map f) :=
  hn ▸ m.rd_arr hi
theorem wc_re {c : Code} {t : Tmp} {v v' : Value} (hb : lk L t = some v) (e : v = v') (k : WC F P Q n D c ((t, v') :: L) M) : WC F P Q n D c L M := by
  subst e
  exact .mk fun a w s => k.out a w ⟨⟨s.agr.size, fun u x hu => by
    by_cases e' : t = u
    · subst e'; rw [lk_cons_eq] at hu; injection hu with hu; subst hu; exact s.agr.at_ _ _ hb
    · rw [lk_cons_ne e'] at hu; exact s.agr.at_ _ _ hu⟩, s.dfr, s.mem⟩
theorem y_slice_slo {d : Option Tmp} {ty : TypeId} {pos : String} {af : Array Edge} {g : Option (Nat × Bool)} {t e : TypeId} {x : Operand} {lo hi mx : Option Operand} {ad : Option Addr} {len cap sz : Nat} (ht : slB P t e = true) (hs : szB P e sz = true) (hx : ev L x = some (.slice ad len cap)) (m h l o : Nat) (hm : obnd L mx cap m) (hh : obnd L hi len h) (hl : obnd L lo 0 l)
    (hmx : mx.isSome = true → hi.isSome = true) (b1 : m ≤ cap) (b2 : h ≤ m) (b3 : l ≤ h) (ho : l * sz = o) : Yld P ⟨d, .slice t x lo hi mx, ty, pos, af, g⟩ L M (.slice (sub ad (m - l) o) (h - l) (m - l)) := by
  subst ho; exact y_slice_sl ht hs hx m h l hm hh hl hmx b1 b2 b3
end Go.Mc
