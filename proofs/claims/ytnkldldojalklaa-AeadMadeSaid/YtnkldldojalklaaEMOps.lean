/- Loads and stores over held memory. No condition. -/
import Derived.Test.YtnkldldojalklaaEMem
set_option linter.all false
namespace Go.Mc

/-- block b has turned to o, nothing else -/
structure Upd (w w' : World) (b : Nat) (o : Obj) : Prop where
  os : w'.os = w.os
  tape : w'.tape = w.tape
  output : w'.output = w.output
  size : w'.heap.size = w.heap.size
  blk : w'.heap[b]? = some o
  rest : ∀ k, k ≠ b → w'.heap[k]? = w.heap[k]?

theorem Upd.trans {w w1 w2 : World} {b : Nat} {o1 o2 : Obj} (h : Upd w w1 b o1) (k : Upd w1 w2 b o2) : Upd w w2 b o2 :=
  ⟨k.os.trans h.os, k.tape.trans h.tape, k.output.trans h.output, k.size.trans h.size, k.blk, fun i hi => (k.rest i hi).trans (h.rest i hi)⟩

def setR (cs : Array Value) (o : Nat) : List Value → Array Value
  | [] => cs
  | v :: vs => setR (cs.setIfInBounds o v) (o + 1) vs
@[simp] theorem setR_size (vs : List Value) : ∀ (cs : Array Value) (o : Nat), (setR cs o vs).size = cs.size := by
  induction vs with
  | nil => intro cs o; rfl
  | cons v vs ih => intro cs o; simp [setR, ih]
theorem setR_get (vs : List Value) : ∀ (cs : Array Value) (o k : Nat), o + vs.length ≤ cs.size → (setR cs o vs)[k]? = if o ≤ k ∧ k < o + vs.length then vs[k - o]? else cs[k]? := by
  induction vs with
  | nil => intro cs o k _; simp only [setR, List.length_nil]; rw [if_neg (by omega)]
  | cons v vs ih =>
    intro cs o k h
    simp only [List.length_cons] at h
    simp only [setR, List.length_cons]
    rw [ih _ _ _ (by simp; omega)]
    by_cases h1 : o + 1 ≤ k ∧ k < o + 1 + vs.length
    · rw [if_pos h1, if_pos (by omega)]
      have : k - o = (k - (o + 1)) + 1 := by omega
      rw [this, List.getElem?_cons_succ]
    · rw [if_neg h1]
      by_cases h2 : k = o
      · subst h2
        rw [if_pos (by omega)]
        simp [Array.getElem?_setIfInBounds]
        omega
      · rw [if_neg (by omega), Array.getElem?_setIfInBounds_ne (by omega)]
theorem setR_all (vs : List Value) (cs : Array Value) (h : vs.length = cs.size) : setR cs 0 vs = vs.toArray := by
  apply Array.ext_getElem?
  intro k
  rw [setR_get _ _ _ _ (by omega)]
  by_cases hk : k < vs.length
  · rw [if_pos (by omega)]; simp
  · rw [if_neg (by omega)]; simp [Array.getElem?_eq_none (show cs.size ≤ k by omega), List.getElem?_eq_none (show vs.length ≤ k by omega)]

theorem upd_setCell {w : World} {b o : Nat} {cs : Array Value} {E : TypeId} {fz : Nat × Nat} (h : w.heap[b]? = some (.cells cs E fz)) (v : Value) : Upd w (w.setCell ⟨b, o, none⟩ v) b (.cells (cs.setIfInBounds o v) E fz) := by
  refine ⟨rfl, rfl, rfl, by simp [World.setCell], ?_, fun k hk => Go.RowKit.Below.heap_setCell _ _ _ _ hk⟩
  simp [World.setCell, Array.getElem?_modify, h]

theorem run_storeCells {P : Program} {b : Nat} {E : TypeId} : ∀ (vs : List Value) (o i : Nat) (cs : Array Value) (w : World), w.heap[b]? = some (.cells cs E (0, 0)) → o + i + vs.length ≤ cs.size → (∀ v ∈ vs, v.oneCell' = true) →
    ∃ w', (storeCells ⟨b, o, none⟩ vs i).run P w = .ok () w' ∧ Upd w w' b (.cells (setR cs (o + i) vs) E (0, 0)) := by
  intro vs
  induction vs with
  | nil => intro o i cs w h _ _; exact ⟨w, rfl, rfl, rfl, rfl, rfl, h, fun _ _ => rfl⟩
  | cons v vs ih =>
    intro o i cs w h hl hone
    simp only [List.length_cons] at hl
    have hst : (store ((⟨b, o, none⟩ : Addr).add i) v).run P w = .ok () (w.setCell ⟨b, o + i, none⟩ v) := by
      rw [run_store _ _ _ _ _ (hone v (by simp)), Addr.add_mk]
      have hc : w.cell? ⟨b, o + i, none⟩ = some (cs[o + i]'(by omega)) := by rw [cell_of_heap h]; simp
      have hf : w.frozen? ⟨b, o + i, none⟩ = false := by simp [World.frozen?, h]
      simp [hc, hf]
    have h1 := upd_setCell (o := o + i) h v
    obtain ⟨w', hr, h2⟩ := ih o (i + 1) (cs.setIfInBounds (o + i) v) _ h1.blk (by simp; omega) (fun u hu => hone u (by simp [hu]))
    refine ⟨w', ?_, h1.trans h2⟩
    simp only [storeCells, Sem.run_bind, hst, Result.andThen_ok]
    exact hr

theorem Mem.upd {w0 w w' : World} {own : List Nat} {H : List Ch} (m : Mem w0 own H w) {i b : Nat} {o o' : Obj} (hi : H[i]? = some (.blk b o)) (u : Upd w w' b o') : Mem w0 own (H.set i (.blk b o')) w' :=
  m.change (c' := .blk b o') hi (fun k hk => .inl hk) u.os u.tape u.output (by rw [u.size]; exact Nat.le_refl _) (fun k _ hk => u.rest k (by simpa [Ch.keys] using hk)) u.blk

def SetAt : List Ch → Nat → Ch → List Ch → Prop
  | [], _, _, H' => H' = []
  | _ :: H, 0, c, H' => H' = c :: H
  | d :: H, i + 1, c, H' => ∃ H'', H' = d :: H'' ∧ SetAt H i c H''
theorem SetAt.eq : ∀ {H : List Ch} {i : Nat} {c : Ch} {H' : List Ch}, SetAt H i c H' → H' = H.set i c
  | [], _, _, _, h => by simpa [SetAt] using h
  | _ :: _, 0, _, _, h => h
  | _ :: _, _ + 1, _, _, ⟨_, rfl, h⟩ => by rw [h.eq]; rfl

/-! type facts, for the kernel -/
def scB (P : Program) (t : TypeId) : Bool := match P.underlying t with | some (.struct _) | some (.array ..) | none => false | some _ => true
def agB (P : Program) (t : TypeId) (k : Nat) : Bool := (match P.underlying t with | some (.struct _) | some (.array ..) => true | _ => false) && match P.info? t with | some i => i.size == k | none => false
def szB (P : Program) (t : TypeId) (k : Nat) : Bool := match P.info? t with | some i => i.size == k | none => false
def byB (P : Program) (t : TypeId) (k : Nat) : Bool := match P.info? t with | some i => i.bytes == k | none => false
def slB (P : Program) (t e : TypeId) : Bool := match P.underlying t with | some (.slice e') => e' == e | _ => false
def arB (P : Program) (t : TypeId) (n : Nat) (e : TypeId) : Bool := match P.underlying t with | some (.array n' e') => n' == n && e' == e | _ => false
def fdB (P : Program) (t : TypeId) (f off : Nat) (ft : TypeId) : Bool := match P.underlying t with | some (.struct fs) => (match fs[f]? with | some g => g.offset == off && g.type == ft | none => false) | _ => false
def znB (P : Program) (t : TypeId) (z : Value) : Prop := (P.info? t).bind (·.zero) = some z

section
variable {P : Program} {w : World}
theorem run_isAgg_sc {t : TypeId} (h : scB P t = true) : (isAgg t).run P w = .ok false w := by
  unfold scB at h
  cases hu : P.underlying t with
  | none => simp [hu] at h
  | some d => cases d <;> simp_all [isAgg, underlying]
theorem run_isAgg_ag {t : TypeId} {k : Nat} (h : agB P t k = true) : (isAgg t).run P w = .ok true w := by
  unfold agB at h
  cases hu : P.underlying t with
  | none => simp [hu] at h
  | some d => cases d <;> simp_all [isAgg, underlying]
theorem run_sizeOf {t : TypeId} {k : Nat} (h : szB P t k = true) : (sizeOf t).run P w = .ok k w := by
  unfold szB at h
  cases hu : P.info? t with
  | none => simp [hu] at h
  | some d => simp_all [sizeOf, typeInfo]
theorem szB_of_ag {t : TypeId} {k : Nat} (h : agB P t k = true) : szB P t k = true := by
  unfold agB at h; simp only [Bool.and_eq_true] at h; exact h.2
theorem run_bytes {t : TypeId} {k : Nat} (h : byB P t k = true) {β : Type} (f : Nat → Sem β) : (do f (← typeInfo t).bytes : Sem β).run P w = (f k).run P w := by
  unfold byB at h
  cases hu : P.info? t with
  | none => simp [hu] at h
  | some d => simp_all [typeInfo]
theorem und_sl {t e : TypeId} (h : slB P t e = true) : P.underlying t = some (.slice e) := by
  unfold slB at h
  cases hu : P.underlying t with
  | none => simp [hu] at h
  | some d => cases d <;> simp_all
theorem und_ar {t e : TypeId} {n : Nat} (h : arB P t n e = true) : P.underlying t = some (.array n e) := by
  unfold arB at h
  cases hu : P.underlying t with
  | none => simp [hu] at h
  | some d => cases d <;> simp_all
theorem und_fd {t ft : TypeId} {f off : Nat} (h : fdB P t f off ft = true) : ∃ fs g, P.underlying t = some (.struct fs) ∧ fs[f]? = some g ∧ g.offset = off ∧ g.type = ft := by
  unfold fdB at h
  cases hu : P.underlying t with
  | none => simp [hu] at h
  | some d =>
    cases d with
    | struct fs =>
      cases hg : fs[f]? with
      | none => simp [hu, hg] at h
      | some g => simp [hu, hg] at h; exact ⟨fs, g, rfl, hg, h.1, h.2⟩
    | _ => simp [hu] at h
theorem run_zero {t : TypeId} {z : Value} (h : znB P t z) : (zeroValue t).run P w = .ok z w := by
  unfold znB at h
  cases hi : P.info? t with
  | none => rw [hi] at h; cases h
  | some i => rw [hi] at h; simp [zeroValue, typeInfo, hi, show i.zero = some z from h]
theorem run_under {t : TypeId} {d : TypeDesc} (h : P.underlying t = some d) : (underlying t).run P w = .ok d w := by simp [underlying, h]

theorem run_loadVar_sc {t : TypeId} {a : Addr} {v : Value} (h : scB P t = true) (hc : w.cell? a = some v) : (loadVar t a).run P w = .ok v w := by
  simp only [loadVar, Sem.run_bind, run_isAgg_sc h, Result.andThen_ok]
  simp [run_load, hc]
theorem run_loadVar_ag {t : TypeId} {k : Nat} {a : Addr} {cs : List Value} (h : agB P t k = true) (hk : cs.length = k) (hc : ∀ j v, cs[j]? = some v → w.cell? (a.add j) = some v) : (loadVar t a).run P w = .ok (.agg cs.toArray) w := by
  simp only [loadVar, Sem.run_bind, run_isAgg_ag h, Result.andThen_ok, if_true, run_sizeOf (szB_of_ag h)]
  subst hk
  rw [run_loadCells_list w a cs hc]
  rfl
theorem run_storeVar {t : TypeId} {k b o : Nat} {v : Value} {cs : Array Value} {E : TypeId} (h : szB P t k = true) (hk : v.cells.size = k) (hb : w.heap[b]? = some (.cells cs E (0, 0))) (ho : o + k ≤ cs.size) (hone : ∀ u ∈ v.cells.toList, u.oneCell' = true) :
    ∃ w', (storeVar t ⟨b, o, none⟩ v).run P w = .ok () w' ∧ Upd w w' b (.cells (setR cs o v.cells.toList) E (0, 0)) := by
  obtain ⟨w', hr, hu⟩ := run_storeCells (P := P) v.cells.toList o 0 cs w hb (by simp; omega) hone
  refine ⟨w', ?_, by simpa using hu⟩
  simp only [storeVar, Sem.run_bind, run_sizeOf h, Result.andThen_ok]
  rw [if_neg (by omega)]
  exact hr
end

section ops
variable {F : Fence} {P : Program} {n : Nat} {L : List (Nat × Value)} {M : World → Prop} {w0 : World} {own : List Nat} {H : List Ch}
variable {d : Option Tmp} {ty : TypeId} {pos : String} {af : Array Edge} {g : Option (Nat × Bool)}

theorem y_load {t : TypeId} {x : Operand} {a : Addr} {v : Value} (hs : scB P t = true) (hx : ev L x = some (.pointer (some a))) (hc : ∀ w, M w → w.cell? a = some v) : Yld P ⟨d, .load t x, ty, pos, af, g⟩ L M v := .mk fun ρ w he hM => by
  simp [execOp, he _ _ hx, Instr.loadAt, Instr.sureAddr, run_loadVar_sc hs (hc w hM)]
theorem y_loads {t : TypeId} {k : Nat} {x : Operand} {a : Addr} {cs : List Value} (hs : agB P t k = true) (hx : ev L x = some (.pointer (some a))) (hk : cs.length = k) (hc : ∀ w, M w → ∀ j v, cs[j]? = some v → w.cell? (a.add j) = some v) :
    Yld P ⟨d, .load t x, ty, pos, af, g⟩ L M (.agg cs.toArray) := .mk fun ρ w he hM => by
  simp [execOp, he _ _ hx, Instr.loadAt, Instr.sureAddr, run_loadVar_ag hs hk (hc w hM)]

/-- a cell of a block that is held -/
theorem c_blk {i b off : Nat} {cs : Array Value} {E : TypeId} {fz : Nat × Nat} {v : Value} (hi : H[i]? = some (.blk b (.cells cs E fz))) (hv : cs[off]? = some v) : ∀ w, Mem w0 own H w → w.cell? ⟨b, off, none⟩ = some v :=
  fun w m => (cell_of_heap (m.blk hi)).trans hv
theorem c_blks {i b off : Nat} {cs : Array Value} {E : TypeId} {fz : Nat × Nat} {vs : List Value} (hi : H[i]? = some (.blk b (.cells cs E fz))) (hv : ∀ j v, vs[j]? = some v → cs[off + j]? = some v) : ∀ w, Mem w0 own H w → ∀ j v, vs[j]? = some v → w.cell? ((⟨b, off, none⟩ : Addr).add j) = some v :=
  fun w m j v hj => by rw [Addr.add_mk]; exact (cell_of_heap (m.blk hi)).trans (hv j v hj)
/-- the whole of a variable -/
theorem c_all {i b : Nat} {cs : Array Value} {E : TypeId} {fz : Nat × Nat} (hi : H[i]? = some (.blk b (.cells cs E fz))) : ∀ w, Mem w0 own H w → ∀ j v, cs.toList[j]? = some v → w.cell? ((⟨b, 0, none⟩ : Addr).add j) = some v :=
  c_blks hi fun j v hj => by simpa using hj
theorem y_loadall {t : TypeId} {k : Nat} {x : Operand} {i b : Nat} {cs : Array Value} {E : TypeId} {fz : Nat × Nat} (hs : agB P t k = true) (hx : ev L x = some (.pointer (some ⟨b, 0, none⟩))) (hi : H[i]? = some (.blk b (.cells cs E fz))) (hk : cs.size = k) :
    Yld P ⟨d, .load t x, ty, pos, af, g⟩ L (Mem w0 own H) (.agg cs) := by
  have := y_loads (d := d) (ty := ty) (pos := pos) (af := af) (g := g) (cs := cs.toList) hs hx (by simpa using hk) (c_all (w0 := w0) (own := own) hi)
  simpa using this
/-- a cell of a slice that reads so -/
theorem c_rd {ad : Option Addr} {m sz k : Nat} {xs : List Value} {v : Value} (h : Rd w0 ad m sz xs) (hk : xs[k]? = some v) (ho : xs ≠ [] → ∀ a, ad = some a → a.block ∉ own) : ∀ w, Mem w0 own H w → w.cell? (adr ad k) = some v :=
  fun _ m => ((m.rd h ho).2 k v hk).2
theorem c_rd0 {ad : Option Addr} {m sz k : Nat} {xs : List Value} {v : Value} (h : Rd w0 ad m sz xs) (hk : xs[k]? = some v) : ∀ w, Mem w0 [] H w → w.cell? (adr ad k) = some v :=
  fun _ m => ((m.rd0 h).2 k v hk).2
theorem c_sl {i : Nat} {ad : Option Addr} {m cap sz k : Nat} {E : TypeId} {xs : List Value} {v : Value} (hi : H[i]? = some (.sl ad m cap E sz xs)) (hk : xs[k]? = some v) : ∀ w, Mem w0 own H w → w.cell? (adr ad k) = some v :=
  fun _ m => ((m.rd_sl hi).2 k v hk).2

theorem e_store {t : TypeId} {x y : Operand} {k i b o : Nat} {v : Value} {cs : Array Value} {E : TypeId} {H' : List Ch} (hs : szB P t k = true) (hx : ev L x = some (.pointer (some ⟨b, o, none⟩))) (hy : ev L y = some v) (hi : H[i]? = some (.blk b (.cells cs E (0, 0))))
    (hk : v.cells.size = k) (ho : o + k ≤ cs.size) (hone : ∀ u ∈ v.cells.toList, u.oneCell' = true) (hH : SetAt H i (.blk b (.cells (setR cs o v.cells.toList) E (0, 0))) H') :
    Eff F P ⟨d, .store t x y, ty, pos, af, g⟩ L (Mem w0 own H) (fun _ : Unit => undef) (fun _ => Mem w0 own H') := eff_mk fun ρ w he m => by
  obtain ⟨w', hr, hu⟩ := run_storeVar (P := P) hs hk (m.blk hi) ho hone
  refine ⟨(), w', .inr ⟨?_, rfl⟩, hH.eq ▸ m.upd hi hu⟩
  simp [execOp, he _ _ hx, he _ _ hy, Instr.storeAt, Instr.sureAddr, hr]

/-- one cell -/
theorem e_store1 {t : TypeId} {x y : Operand} {i b o : Nat} {v : Value} {cs : Array Value} {E : TypeId} {H' : List Ch} (hs : szB P t 1 = true) (hx : ev L x = some (.pointer (some ⟨b, o, none⟩))) (hy : ev L y = some v) (hi : H[i]? = some (.blk b (.cells cs E (0, 0))))
    (hone : v.oneCell' = true) (ho : o < cs.size) (hH : SetAt H i (.blk b (.cells (cs.setIfInBounds o v) E (0, 0))) H') :
    Eff F P ⟨d, .store t x y, ty, pos, af, g⟩ L (Mem w0 own H) (fun _ : Unit => undef) (fun _ => Mem w0 own H') := by
  have hc : v.cells = #[v] := by cases v <;> first | rfl | simp [Value.oneCell'] at hone
  exact e_store (k := 1) (v := v) hs hx hy hi (by rw [hc]; rfl) (by omega) (by rw [hc]; simpa using hone) (by rw [hc]; exact hH)
/-- the whole of a variable -/
theorem e_storeall {t : TypeId} {x y : Operand} {k i b : Nat} {vs : Array Value} {cs : Array Value} {E : TypeId} {H' : List Ch} (hs : szB P t k = true) (hx : ev L x = some (.pointer (some ⟨b, 0, none⟩))) (hy : ev L y = some (.agg vs)) (hi : H[i]? = some (.blk b (.cells cs E (0, 0))))
    (hk : vs.size = k) (ho : cs.size = k) (hone : ∀ u ∈ vs.toList, u.oneCell' = true) (hH : SetAt H i (.blk b (.cells vs E (0, 0))) H') :
    Eff F P ⟨d, .store t x y, ty, pos, af, g⟩ L (Mem w0 own H) (fun _ : Unit => undef) (fun _ => Mem w0 own H') :=
  e_store (k := k) (v := .agg vs) hs hx hy hi hk (by omega) hone (by
    have : setR cs 0 vs.toList = vs := by rw [setR_all _ _ (by simp; omega)]
    show SetAt H i (.blk b (.cells (setR cs 0 vs.toList) E (0, 0))) H'
    rw [this]; exact hH)

theorem e_box {t : TypeId} {x : Operand} {v : Value} {cs : Array Value} (hx : ev L x = some v) (hc : v.cells = cs := by rfl) : Eff F P ⟨d, .box t x, ty, pos, af, g⟩ L (Mem w0 own H) (fun b : Nat => .pointer (some ⟨b, 0, none⟩)) (fun b => Mem w0 own (.blk b (.cells cs t (0, 0)) :: H)) := eff_mk fun ρ w he m =>
  ⟨w.heap.size, w.alloc (.cells cs t), .inl (by subst hc; simp [execOp, he _ _ hx, Instr.box, newVar, newRow]), m.alloc _⟩
theorem e_alloc {t : TypeId} {z : Value} {cs : Array Value} (hz : znB P t z) (hc : z.cells = cs := by rfl) : Eff F P ⟨d, .alloc t, ty, pos, af, g⟩ L (Mem w0 own H) (fun b : Nat => .pointer (some ⟨b, 0, none⟩)) (fun b => Mem w0 own (.blk b (.cells cs t (0, 0)) :: H)) := eff_mk fun ρ w he m =>
  ⟨w.heap.size, w.alloc (.cells cs t), .inl (by subst hc; simp [execOp, Instr.alloc, newVar, newRow, run_zero hz]), m.alloc _⟩

theorem y_makeFunc {fn : Fn} {a b : Array Operand} {va vb : List Value} (ha : evs L a.toList = some va) (hb : evs L b.toList = some vb) : Yld P ⟨d, .makeFunc fn a b, ty, pos, af, g⟩ L M (.func fn va.toArray vb.toArray) := .mk fun ρ w he _ => by
  have h1 : a.map ρ = va.toArray := by have := he.evs ha; rw [← this, ← List.map_toArray]
  have h2 : b.map ρ = vb.toArray := by have := he.evs hb; rw [← this, ← List.map_toArray]
  simp [execOp, Instr.makeFunc, h1, h2]

theorem y_fieldAddr {s ft : TypeId} {x : Operand} {f off k b o : Nat} (hf : fdB P s f off ft = true) (hk : szB P ft (k + 1) = true) (hx : ev L x = some (.pointer (some ⟨b, o, none⟩))) : Yld P ⟨d, .fieldAddr s x f, ty, pos, af, g⟩ L M (.pointer (some ⟨b, o + off, none⟩)) := .mk fun ρ w he _ => by
  obtain ⟨fs, gg, hu, hg, hoff, hft⟩ := und_fd hf
  subst hoff; subst hft
  simp [execOp, he _ _ hx, Instr.fieldAt, run_under hu, hg, Instr.sureAddr, fieldPlace, run_sizeOf hk]
/-- of an address of whatever make -/
theorem y_fieldAddr' {s ft : TypeId} {x : Operand} {f off k : Nat} {a : Addr} (hf : fdB P s f off ft = true) (hk : szB P ft (k + 1) = true) (hx : ev L x = some (.pointer (some a))) : Yld P ⟨d, .fieldAddr s x f, ty, pos, af, g⟩ L M (.pointer (some (a.add off))) := .mk fun ρ w he _ => by
  obtain ⟨fs, gg, hu, hg, hoff, hft⟩ := und_fd hf
  subst hoff; subst hft
  simp [execOp, he _ _ hx, Instr.fieldAt, run_under hu, hg, Instr.sureAddr, fieldPlace, run_sizeOf hk]
theorem y_field_sc {s ft : TypeId} {x : Operand} {f off : Nat} {cs : Array Value} {v : Value} (hf : fdB P s f off ft = true) (hs : scB P ft = true) (hx : ev L x = some (.agg cs)) (hv : cs[off]? = some v) : Yld P ⟨d, .field s x f, ty, pos, af, g⟩ L M v := .mk fun ρ w he _ => by
  obtain ⟨fs, gg, hu, hg, hoff, hft⟩ := und_fd hf
  subst hoff; subst hft
  simp [execOp, he _ _ hx, Instr.field, run_under hu, hg, part, run_isAgg_sc hs, asAgg, hv]
theorem y_field_ag {s ft : TypeId} {x : Operand} {f off k : Nat} {cs vs : Array Value} (hf : fdB P s f off ft = true) (hs : agB P ft k = true) (hx : ev L x = some (.agg cs)) (hv : cs.extract off (off + k) = vs) : Yld P ⟨d, .field s x f, ty, pos, af, g⟩ L M (.agg vs) := .mk fun ρ w he _ => by
  obtain ⟨fs, gg, hu, hg, hoff, hft⟩ := und_fd hf
  subst hoff; subst hft
  simp [execOp, he _ _ hx, Instr.field, run_under hu, hg, part, run_isAgg_ag hs, run_sizeOf (szB_of_ag hs), asAgg, hv]
/-- an array behind its address -/
theorem y_indexAddr_ar {t e : TypeId} {x y : Operand} {len k b o : Nat} {q : IntKind} {i : Int} (ht : arB P t len e = true) (hk : szB P e k = true) (hx : ev L x = some (.pointer (some ⟨b, o, none⟩))) (hy : ev L y = some (.int q i)) (h0 : 0 ≤ i) (h1 : i < len) (m : Nat) (hm : o + i.toNat * k = m) :
    Yld P ⟨d, .indexAddr t x y, ty, pos, af, g⟩ L M (.pointer (some ⟨b, m, none⟩)) := .mk fun ρ w he _ => by
  subst hm
  simp [execOp, he _ _ hx, he _ _ hy, Instr.indexAt, asIntOf, run_under (und_ar ht), Instr.sureAddr, h0, h1, run_sizeOf hk]
theorem y_indexAddr_sl {t e : TypeId} {x y : Operand} {len cap k : Nat} {ad : Option Addr} {q : IntKind} {i : Int} (ht : slB P t e = true) (hk : szB P e k = true) (hx : ev L x = some (.slice ad len cap)) (hy : ev L y = some (.int q i)) (h0 : 0 ≤ i) (h1 : i < len) (had : ∀ w, M w → ad.isSome = true) (m : Nat) (hm : i.toNat * k = m) :
    Yld P ⟨d, .indexAddr t x y, ty, pos, af, g⟩ L M (.pointer (some (adr ad m))) := .mk fun ρ w he hM => by
  obtain ⟨a, rfl⟩ := Option.isSome_iff_exists.1 (had w hM)
  subst hm
  simp [execOp, he _ _ hx, he _ _ hy, Instr.indexAt, asIntOf, run_under (und_sl ht), h0, h1, run_sizeOf hk, adr]
theorem rd_isSome {w : World} {ad : Option Addr} {n sz : Nat} {xs : List Value} (h : Rd w ad n sz xs) (hn : 0 < n) (hs : 0 < sz) : ad.isSome = true :=
  (h.2 0 _ (List.getElem?_eq_getElem (by rw [h.1]; exact Nat.mul_pos hn hs))).1
theorem y_index_ar {t e : TypeId} {x y : Operand} {len : Nat} {q : IntKind} {i : Int} {cs : Array Value} {v : Value} (ht : arB P t len e = true) (hk : szB P e 1 = true) (hs : scB P e = true) (hx : ev L x = some (.agg cs)) (hy : ev L y = some (.int q i)) (h0 : 0 ≤ i) (h1 : i < len) (hv : cs[i.toNat]? = some v) :
    Yld P ⟨d, .index t x y, ty, pos, af, g⟩ L M v := .mk fun ρ w he _ => by
  simp [execOp, he _ _ hx, he _ _ hy, Instr.index, asIntOf, run_under (und_ar ht), h0, h1, run_sizeOf hk, part, run_isAgg_sc hs, hv]
theorem y_index_ag {t e : TypeId} {x y : Operand} {len k : Nat} {q : IntKind} {i : Int} {cs vs : Array Value} (ht : arB P t len e = true) (hs : agB P e k = true) (hx : ev L x = some (.agg cs)) (hy : ev L y = some (.int q i)) (h0 : 0 ≤ i) (h1 : i < len) (hv : cs.extract (i.toNat * k) (i.toNat * k + k) = vs) :
    Yld P ⟨d, .index t x y, ty, pos, af, g⟩ L M (.agg vs) := .mk fun ρ w he _ => by
  simp [execOp, he _ _ hx, he _ _ hy, Instr.index, asIntOf, run_under (und_ar ht), h0, h1, run_sizeOf (szB_of_ag hs), part, run_isAgg_ag hs, hv]
theorem y_index_str {t : TypeId} {x y : Operand} {q : IntKind} {i : Int} {s : ByteArray} {c : UInt8} (ht : P.underlying t = some .string) (hx : ev L x = some (.string s)) (hy : ev L y = some (.int q i)) (h0 : 0 ≤ i) (hv : s[i.toNat]? = some c) :
    Yld P ⟨d, .index t x y, ty, pos, af, g⟩ L M (.int .u8 c.toNat) := .mk fun ρ w he _ => by
  simp [execOp, he _ _ hx, he _ _ hy, Instr.index, asIntOf, run_under ht, h0, hv]
end ops
end Go.Mc
