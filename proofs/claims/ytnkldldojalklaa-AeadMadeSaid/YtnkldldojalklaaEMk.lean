/- Lemmas and contracts for the proof of this seat's statements (Mk). No condition. -/
import Derived.Test.YtnkldldojalklaaESl
import Derived.Test.YtnkldldojalklaaERange
import Derived.Laws.MakeOwn
import Derived.Laws.Tables
set_option linter.all false
namespace Go.Mc
/-- as 'fill', by rows of cells -/
def fillR (place : Nat → Option (Nat × Nat)) (cells : Array Value) : List (Nat × Value) → Option (Array Value)
  | [] => some cells
  | (i, v) :: rest =>
    match place i with
    | none => none
    | some (off, size) => if v.cells.size ≠ size || off + v.cells.size > cells.size then none else fillR place (setR cells off v.cells.toList) rest

theorem foldl_setR (vs : List Value) : ∀ (cs : Array Value) (off k : Nat), (vs.zipIdx k).foldl (fun cs (c, j) => cs.setIfInBounds (off + j) c) cs = setR cs (off + k) vs := by
  induction vs with
  | nil => intro cs off k; rfl
  | cons v vs ih => intro cs off k; simp only [List.zipIdx_cons, List.foldl_cons, setR]; rw [ih]; rfl
theorem fill_fillR (place : Nat → Option (Nat × Nat)) : ∀ (l : List (Nat × Value)) (cs : Array Value), Instr.fill place cs l = fillR place cs l := by
  intro l
  induction l with
  | nil => intro cs; rfl
  | cons p l ih =>
    obtain ⟨i, v⟩ := p
    intro cs
    simp only [Instr.fill, fillR]
    cases place i with
    | none => rfl
    | some os =>
      obtain ⟨off, size⟩ := os
      simp only
      split
      · rfl
      · rw [ih]
        congr 1
        rw [← Array.foldl_toList, Array.toList_zipIdx]
        exact foldl_setR v.cells.toList cs off 0

/-- a row of elements, one behind the other -/
theorem fillR_row {sz : Nat} : ∀ (vs : List Value) (cs : Array Value) (k : Nat), (∀ v ∈ vs, v.cells.size = sz) → (k + vs.length) * sz ≤ cs.size →
    fillR (fun i => some (i * sz, sz)) cs ((vs.zipIdx k).map fun p => (p.2, p.1)) = some (setR cs (k * sz) (vs.flatMap fun v => v.cells.toList)) := by
  intro vs
  induction vs with
  | nil => intro cs k _ _; rfl
  | cons v vs ih =>
    intro cs k hv hl
    have h1 := hv v (by simp)
    simp only [List.length_cons, Nat.add_mul, Nat.one_mul] at hl
    simp only [List.zipIdx_cons, List.map_cons, fillR]
    rw [if_neg (by rw [h1]; simp; omega), ih _ (k + 1) (fun u hu => hv u (by simp [hu])) (by simp [Nat.add_mul]; omega)]
    congr 1
    have app : ∀ (xs ys : List Value) (cs : Array Value) (o : Nat), setR (setR cs o xs) (o + xs.length) ys = setR cs o (xs ++ ys) := by
      intro xs
      induction xs with
      | nil => intro ys cs o; rfl
      | cons x xs ih => intro ys cs o; simp only [setR, List.length_cons, List.cons_append]; rw [← ih, Nat.add_right_comm, Nat.add_assoc]
    have hlen : v.cells.toList.length = sz := by simpa using h1
    rw [List.flatMap_cons, ← app, hlen, Nat.add_mul, Nat.one_mul]

section
variable {F : Fence} {P : Program} {n : Nat} {L : List (Nat × Value)} {M : World → Prop} {w0 : World} {own : List Nat} {H : List Ch}
variable {d : Option Tmp} {ty : TypeId} {pos : String} {af : Array Edge} {g : Option (Nat × Bool)}

theorem evs_map {ρ : Operand → Value} (he : Ev L ρ) : ∀ {ps : List (Nat × Operand)} {vs : List (Nat × Value)}, ps.map (fun p => (p.1, ev L p.2)) = vs.map (fun p => (p.1, some p.2)) → ps.map (fun p => (p.1, ρ p.2)) = vs
  | [], [], _ => rfl
  | [], _ :: _, h => by cases h
  | _ :: _, [], h => by cases h
  | p :: ps, v :: vs, h => by
    simp only [List.map_cons, List.cons.injEq, Prod.mk.injEq] at h
    simp only [List.map_cons, List.cons.injEq]
    exact ⟨Prod.ext h.1.1 (he _ _ h.1.2), evs_map he h.2⟩

theorem run_buildSlice {ρ : Operand → Value} (he : Ev L ρ) {w : World} {t E : TypeId} {len sz bytes : Nat} {z : Value} {parts : Array (Nat × Operand)} (vs : List Value) (ht : slB P t E = true) (hE : elB P E sz bytes z)
    (hp : parts.toList.map (fun p => (p.1, ev L p.2)) = (vs.zipIdx.map fun p => (p.2, p.1)).map (fun p => (p.1, some p.2))) (hlen : len = vs.length) (hcs : ∀ v ∈ vs, v.cells.size = sz) (hsm : len * sz ≤ 16777216) (xs : List Value) (hxs : (vs.flatMap fun v => v.cells.toList) = xs) :
    xs.length = len * sz ∧ (execOp ρ ⟨d, .buildSlice t len parts, ty, pos, af, g⟩).run P w = .ok (.value (.slice (some ⟨w.heap.size, 0, none⟩) len len)) (w.alloc (.cells xs.toArray E)) := by
  obtain ⟨ti, hti, hs1, hs2, hz⟩ := hE
  subst hs1
  have hpl : (parts.map fun (i, x) => (i, ρ x)).toList = vs.zipIdx.map fun p => (p.2, p.1) := by
    rw [Array.toList_map]; exact evs_map he hp
  have hfl : ∀ cs : Array Value, cs.size = len * ti.size → Instr.fill (fun i => some (i * ti.size, ti.size)) cs (parts.map fun (i, x) => (i, ρ x)).toList = some xs.toArray := by
    intro cs hc
    rw [fill_fillR, hpl, fillR_row vs cs 0 hcs (by rw [hc, hlen]; simp)]
    subst hxs
    simp only [Nat.zero_mul]
    rw [setR_all]
    rw [hc, hlen, List.length_flatMap]
    clear hp hpl hlen hsm hc
    induction vs with
    | nil => simp
    | cons v vs ih =>
      have := hcs v (by simp)
      simp only [List.map_cons, List.sum_cons, List.length_cons, Nat.add_mul, Nat.one_mul]
      rw [ih fun u hu => hcs u (by simp [hu])]
      simp [this]; omega
  have hxl : xs.length = len * ti.size := by
    have h1 := fillR_row vs (Array.replicate (len * ti.size) undef) 0 hcs (by rw [hlen]; simp)
    have h2 := hfl (Array.replicate (len * ti.size) undef) (by simp)
    rw [fill_fillR, hpl, h1] at h2
    have := congrArg (fun o => (o.map Array.size)) h2
    simpa using this.symm
  refine ⟨hxl, ?_⟩
  · have hnot : ¬ (16777216 < len * ti.size) := by omega
    simp only [execOp, Instr.buildSlice, Sem.run_bind, run_under (und_sl ht), Result.andThen_ok]
    by_cases h0 : len * ti.size = 0
    · have hf := hfl #[] (by simp [h0])
      have hf' : Instr.fill (fun i => some (i * ti.size, ti.size)) ((Array.range (len * ti.size)).map ((#[] : Array Value)[· % (#[] : Array Value).size]!)) (parts.map fun (i, x) => (i, ρ x)).toList = some xs.toArray := hfl _ (by simp)
      simp [sizeOf, typeInfo, hti, h0, newRow] at hf' ⊢
      have hf2 := hfl ((Array.range 0).map fun _ => (default : Value)) (by simp [h0])
      simp only [Array.toList_map] at hf2
      rw [hf2]; simp [newObj]; rfl
    · have hf := hfl ((Array.range (len * ti.size)).map (z.cells[· % z.cells.size]!)) (by simp)
      simp only [sizeOf, typeInfo, Sem.run_bind]
      simp [sizeOf, typeInfo, hti, hnot, h0, newRow, zeroValue, hz]
      simp at hf
      simp [hf]
/-- []T{..}, every element given -/
theorem e_buildSlice {t E : TypeId} {len sz bytes : Nat} {z : Value} {parts : Array (Nat × Operand)} (vs : List Value) (ht : slB P t E = true) (hE : elB P E sz bytes z) (hzs : z.cells.size = sz)
    (hp : parts.toList.map (fun p => (p.1, ev L p.2)) = (vs.zipIdx.map fun p => (p.2, p.1)).map (fun p => (p.1, some p.2))) (hlen : len = vs.length) (hcs : ∀ v ∈ vs, v.cells.size = sz) (hsm : len * sz ≤ 16777216) (xs : List Value) (hxs : (vs.flatMap fun v => v.cells.toList) = xs) :
    Eff F P ⟨d, .buildSlice t len parts, ty, pos, af, g⟩ L (Mem w0 own H) (fun b : Nat => .slice (some ⟨b, 0, none⟩) len len) (fun b => Mem w0 own (.sl (some ⟨b, 0, none⟩) len len E sz xs :: H)) := eff_mk fun ρ w he m => by
  obtain ⟨hxl, hr⟩ := run_buildSlice (d := d) (ty := ty) (pos := pos) (af := af) (g := g) he (w := w) vs ht hE hp hlen hcs hsm xs hxs
  refine ⟨w.heap.size, w.alloc (.cells xs.toArray E), .inl hr, ?_⟩
  · cases hl : len with
    | zero => 
      subst hl
      have : xs = [] := List.eq_nil_of_length_eq_zero (by simpa using hxl)
      subst this
      exact m.push (c := .sl (some ⟨w.heap.size, 0, none⟩) 0 0 E sz []) (by simp [Ch.keys]) rfl rfl rfl (by simp) (fun b hb => Go.RowKit.Below.heap_alloc _ _ _ hb) ⟨rfl, rfl, rfl⟩
    | succ l =>
      rw [hl] at hxl
      exact m.push (c := .sl (some ⟨w.heap.size, 0, none⟩) (l + 1) (l + 1) E sz xs) (by simp [Ch.keys]) rfl rfl rfl (by simp) (fun b hb => Go.RowKit.Below.heap_alloc _ _ _ hb)
        ⟨rfl, rfl, Nat.le_refl _, hxl, [], by simp [hxl], by simpa using heap_alloc_new w _⟩

/-- the same, as a block -/
theorem e_buildBlk {t E : TypeId} {len sz bytes : Nat} {z : Value} {parts : Array (Nat × Operand)} (vs : List Value) (ht : slB P t E = true) (hE : elB P E sz bytes z) (hzs : z.cells.size = sz)
    (hp : parts.toList.map (fun p => (p.1, ev L p.2)) = (vs.zipIdx.map fun p => (p.2, p.1)).map (fun p => (p.1, some p.2))) (hlen : len = vs.length) (hcs : ∀ v ∈ vs, v.cells.size = sz) (hsm : len * sz ≤ 16777216) (xs : List Value) (hxs : (vs.flatMap fun v => v.cells.toList) = xs) :
    Eff F P ⟨d, .buildSlice t len parts, ty, pos, af, g⟩ L (Mem w0 own H) (fun b : Nat => .slice (some ⟨b, 0, none⟩) len len) (fun b => Mem w0 own (.blk b (.cells xs.toArray E (0, 0)) :: H)) := eff_mk fun ρ w he m => by
  obtain ⟨hxl, hr⟩ := run_buildSlice (d := d) (ty := ty) (pos := pos) (af := af) (g := g) he (w := w) vs ht hE hp hlen hcs hsm xs hxs
  exact ⟨w.heap.size, w.alloc (.cells xs.toArray E), .inl hr, m.alloc _⟩
/-- make([]T, l, c) -/
theorem e_makeSlice {t E : TypeId} {x y : Operand} {sz bytes : Nat} {z : Value} {kl kc : IntKind} {i j : Int} (l c : Nat) (ht : slB P t E = true) (hE : elB P E sz bytes z) (hzs : z.cells = #[z]) (hsz : sz = 1) (hx : ev L x = some (.int kl i)) (hy : ev L y = some (.int kc j)) (hi : i = (l : Int)) (hj : j = (c : Int))
    (hlc : l ≤ c) (hb : bytes * c ≤ 281474976710656) (hc : c ≤ 9223372036854775807) :
    Eff F P ⟨d, .makeSlice t x y, ty, pos, af, g⟩ L (Mem w0 own H) (fun b : Nat => .slice (some ⟨b, 0, none⟩) l c) (fun b => Mem w0 own (.sl (some ⟨b, 0, none⟩) l c E sz (List.replicate l z) :: H)) := eff_mk fun ρ w he m => by
  obtain ⟨ti, hti, hs1, hs2, hz⟩ := hE
  subst hsz; subst hs2; subst hi; subst hj
  have hb' : (ti.bytes : Int) * (c : Int) ≤ 281474976710656 := by
    have h : ((ti.bytes * c : Nat) : Int) ≤ 281474976710656 := by omega
    rwa [Int.natCast_mul] at h
  have hr := run_make (P := P) w t E ti z (und_sl ht) hti hz kl kc l c (by omega) (by omega) hb' (by omega)
  simp only [Int.toNat_natCast, hs1, Nat.mul_one] at hr
  have hm : madeCells z.cells c = (List.replicate c z).toArray := by
    rw [hzs]
    apply Array.ext
    · simp [madeCells]
    · intro k h1 h2
      simp [madeCells, Nat.mod_one]
  rw [hm] at hr
  refine ⟨w.heap.size, w.alloc (.cells (List.replicate c z).toArray E), .inl ?_, ?_⟩
  · simp [execOp, he _ _ hx, he _ _ hy, hr]
  · cases hl : c with
    | zero =>
      subst hl
      have hl0 : l = 0 := by omega
      subst hl0
      exact m.push (c := .sl (some ⟨w.heap.size, 0, none⟩) 0 0 E 1 []) (by simp [Ch.keys]) rfl rfl rfl (by simp) (fun b hb => Go.RowKit.Below.heap_alloc _ _ _ hb) ⟨rfl, rfl, rfl⟩
    | succ c' =>
      subst hl
      refine m.push (c := .sl (some ⟨w.heap.size, 0, none⟩) l (c' + 1) E 1 (List.replicate l z)) (by simp [Ch.keys]) rfl rfl rfl (by simp) (fun b hb => Go.RowKit.Below.heap_alloc _ _ _ hb)
        ⟨rfl, rfl, hlc, by simp, List.replicate (c' + 1 - l) z, by simp; omega, ?_⟩
      have : List.replicate l z ++ List.replicate (c' + 1 - l) z = List.replicate (c' + 1) z := by rw [List.replicate_append_replicate]; congr 1; omega
      rw [this]; exact heap_alloc_new w _

/-- the places of a struct's fields -/
def stB (P : Program) (t : TypeId) (pl : List (Nat × Nat)) : Prop := (match P.underlying t with | some (.struct fs) => fs.toList.mapM (fun f => (P.info? f.type).map fun i => (f.offset, i.size)) | _ => none) = some pl
theorem y_build_st {t : TypeId} {pl : List (Nat × Nat)} {z : Value} {parts : Array (Nat × Operand)} (vs : List (Nat × Value)) (hs : stB P t pl) (hz : znB P t z) (hp : parts.toList.map (fun p => (p.1, ev L p.2)) = vs.map (fun p => (p.1, some p.2))) {cs : Array Value} (hf : fillR (pl[·]?) z.cells vs = some cs) :
    Yld P ⟨d, .build t parts, ty, pos, af, g⟩ L M (.agg cs) := .mk fun ρ w he _ => by
  have hpl : (parts.map fun (i, x) => (i, ρ x)).toList = vs := by rw [Array.toList_map]; exact evs_map he hp
  have hb : P.built t (parts.map fun (i, x) => (i, ρ x)).toList = some cs := by
    unfold stB at hs; unfold znB at hz
    unfold Program.built
    cases hi : P.info? t with
    | none => rw [hi] at hz; cases hz
    | some it =>
      cases hu : P.underlying t with
      | none => rw [hu] at hs; cases hs
      | some dd =>
        rw [hu] at hs; rw [hi] at hz
        have hz' : it.zero = some z := hz
        cases dd <;> simp only at hs <;> (try cases hs)
        simp only [hz']
        rw [hpl]
        simp only [hs]
        rw [fill_fillR]
        simpa using hf
  simp [execOp, run_build w t _ cs hb]
theorem y_build_ar {t e : TypeId} {len sz : Nat} {z : Value} {parts : Array (Nat × Operand)} (vs : List (Nat × Value)) (ht : arB P t len e = true) (hs : szB P e sz = true) (hz : znB P t z) (hp : parts.toList.map (fun p => (p.1, ev L p.2)) = vs.map (fun p => (p.1, some p.2))) {cs : Array Value} (hf : fillR (fun i => some (i * sz, sz)) z.cells vs = some cs) :
    Yld P ⟨d, .build t parts, ty, pos, af, g⟩ L M (.agg cs) := .mk fun ρ w he _ => by
  have hpl : (parts.map fun (i, x) => (i, ρ x)).toList = vs := by rw [Array.toList_map]; exact evs_map he hp
  have hb : P.built t (parts.map fun (i, x) => (i, ρ x)).toList = some cs := by
    unfold znB at hz; unfold szB at hs
    unfold Program.built
    cases hi : P.info? t with
    | none => rw [hi] at hz; cases hz
    | some it =>
      rw [hi] at hz
      have hz' : it.zero = some z := hz
      cases he' : P.info? e with
      | none => rw [he'] at hs; cases hs
      | some ie =>
        rw [he'] at hs
        have hs' : ie.size = sz := by simpa using hs
        simp only [und_ar ht, hz', he']
        rw [hpl, hs', fill_fillR]; exact hf
  simp [execOp, run_build w t _ cs hb]
/-- [n]T(s): the array behind a slice -/
theorem y_s2a {t e : TypeId} {x : Operand} {ad : Option Addr} {len cap k : Nat} (ht : arB P t k e = true) (hx : ev L x = some (.slice ad len cap)) (hk : k ≤ len) (hs : ∀ w, M w → ad.isSome = true) : Yld P ⟨d, .sliceToArrayPointer t x, ty, pos, af, g⟩ L M (.pointer (some (adr ad 0))) := .mk fun ρ w he hM => by
  obtain ⟨a, rfl⟩ := Option.isSome_iff_exists.1 (hs w hM)
  have h0 : a.add 0 = a := by unfold Addr.add; simp
  simp [execOp, he _ _ hx, Instr.arrayAt, run_under (und_ar ht), Nat.not_lt.2 hk, adr, h0]
/-- the cells behind such an address -/
theorem c_rds {ad : Option Addr} {m sz : Nat} {xs : List Value} (h : ∀ w, M w → Rd w ad m sz xs) (k : Nat) : ∀ w, M w → ∀ j v, (xs.take k)[j]? = some v → w.cell? ((adr ad 0).add j) = some v := fun w hm j v hj => by
  rw [List.getElem?_take] at hj
  split at hj
  · rw [adr_add, Nat.zero_add]; exact ((h w hm).2 j v hj).2
  · cases hj
/-- []byte of a constant string: the row is marked behind its cells -/
theorem e_conv_mark {t E : TypeId} {x : Operand} {i b m c : Nat} {cs : Array Value} {H' : List Ch} (ht : slB P t E = true) (hE : P.underlying E = some (.int .u8)) (hx : ev L x = some (.slice (some ⟨b, 0, none⟩) m c)) (hi : H[i]? = some (.blk b (.cells cs E (0, 0))))
    (hH : SetAt H i (.blk b (.cells cs E (cs.size, cs.size + 1))) H') : Eff F P ⟨d, .convert t t x, ty, pos, af, g⟩ L (Mem w0 own H) (fun _ : Unit => .slice (some ⟨b, 0, none⟩) m c) (fun _ => Mem w0 own H') := eff_mk fun ρ w he mm => by
  have hb := mm.blk hi
  have hsh : w.shape? b = some (E, cs.size) := by unfold World.shape?; rw [hb]
  refine ⟨(), w.freeze ⟨b, cs.size, none⟩ 1, .inl ?_, ?_⟩
  · simp [execOp, he _ _ hx, convert, underlying, und_sl ht, hE, markStringish, hsh]
  · rw [hH.eq]
    refine mm.upd hi ⟨?_, ?_, ?_, ?_, ?_, ?_⟩
    · unfold World.freeze; split <;> rfl
    · unfold World.freeze; split <;> rfl
    · unfold World.freeze; split <;> rfl
    · unfold World.freeze; split <;> simp
    · unfold World.freeze; rw [if_neg (by decide)]; simp [Array.getElem?_modify, hb]
    · intro k hk
      unfold World.freeze; rw [if_neg (by decide)]
      simp only
      rw [Array.getElem?_modify, if_neg (fun e => hk e.symm)]
theorem y_min2 {x y : Operand} {k : IntKind} {i j : Int} {tys : Array TypeId} (hx : ev L x = some (.int k i)) (hy : ev L y = some (.int k j)) : Yld P ⟨d, .call ⟨.builtin .min, #[x, y], tys⟩, ty, pos, af, g⟩ L M (.int k (min i j)) := .mk fun ρ w he _ => by
  simp [execOp, resolve, invoke, builtin, Builtin.min_, Builtin.min2, he _ _ hx, he _ _ hy]
  rw [Int.min_def]; split <;> split <;> first | rfl | omega
theorem y_max2 {x y : Operand} {k : IntKind} {i j : Int} {tys : Array TypeId} (hx : ev L x = some (.int k i)) (hy : ev L y = some (.int k j)) : Yld P ⟨d, .call ⟨.builtin .max, #[x, y], tys⟩, ty, pos, af, g⟩ L M (.int k (max i j)) := .mk fun ρ w he _ => by
  simp [execOp, resolve, invoke, builtin, Builtin.max_, Builtin.max2, he _ _ hx, he _ _ hy]
  rw [Int.max_def]; split <;> split <;> first | rfl | omega
theorem addn_i64 {a b : Nat} (h : a + b ≤ 9223372036854775807) : bin .add (ki (a : Int)) (ki (b : Int)) = some (ki ((a + b : Nat) : Int)) := by
  rw [add_i64 (by omega) (by omega)]; congr 2
theorem subn_i64 {a b : Nat} (h : b ≤ a) (h2 : a ≤ 9223372036854775807) : bin .sub (ki (a : Int)) (ki (b : Int)) = some (ki ((a - b : Nat) : Int)) := by
  rw [sub_i64 (by omega) (by omega)]; congr 2; omega
theorem muln_i64 {a b : Nat} (h : a * b ≤ 9223372036854775807) : bin .mul (ki (a : Int)) (ki (b : Int)) = some (ki ((a * b : Nat) : Int)) := by
  have : ((a * b : Nat) : Int) = (a : Int) * (b : Int) := Int.natCast_mul a b
  rw [mul_i64 (by rw [← this]; omega) (by rw [← this]; omega), this]
theorem quon_i64 {a b : Nat} (h : a ≤ 9223372036854775807) (h2 : 0 < b) : bin .quo (ki (a : Int)) (ki (b : Int)) = some (ki ((a / b : Nat) : Int)) := by
  rw [quo_i64 (by omega) (by omega) (by omega)]; congr 2
theorem remn_i64 {a b : Nat} (h2 : 0 < b) : bin .rem (ki (a : Int)) (ki (b : Int)) = some (ki ((a % b : Nat) : Int)) := by
  rw [rem_i64 (by omega) (by omega)]; congr 2
theorem sub_zero (ad : Option Addr) (m : Nat) : sub ad m 0 = ad := by
  unfold sub
  split
  · rfl
  · cases ad with
    | none => rfl
    | some a => simp only [Option.map_some]; congr 1
theorem Rd.sub1 {α : Type} {f : α → Value} {w : World} {ad : Option Addr} {n : Nat} {xs : List α} (h : Rd w ad n 1 (xs.map f)) {l k m : Nat} (hlk : l + k ≤ n) (hm : k ≤ m) : Rd w (Go.Mc.sub ad m l) k 1 (((xs.drop l).take k).map f) := by
  have := h.sub hlk hm
  simpa only [Nat.mul_one, ← List.map_drop, ← List.map_take] using this
theorem Rd.pre1 {α : Type} {f : α → Value} {w : World} {ad : Option Addr} {n : Nat} {xs : List α} (h : Rd w ad n 1 (xs.map f)) {k : Nat} (hlk : k ≤ n) : Rd w ad k 1 ((xs.take k).map f) := by
  have := h.sub1 (l := 0) (k := k) (m := k) (by omega) (Nat.le_refl _)
  simpa only [sub_zero, List.drop_zero] using this
theorem Rd.len {α : Type} {f : α → Value} {w : World} {ad : Option Addr} {n : Nat} {xs : List α} (h : Rd w ad n 1 (xs.map f)) : xs.length = n := by simpa using h.1
theorem Mem.rd_arr {α : Type} {f : α → Value} {w0 w : World} {own : List Nat} {H : List Ch} (m : Mem w0 own H w) {i b : Nat} {xs : List α} {E : TypeId} {fz : Nat × Nat} (hi : H[i]? = some (.blk b (.cells (arr f xs) E fz))) : Rd w (some ⟨b, 0, none⟩) xs.length 1 (xs.map f) :=
  m.rd_blk (n := xs.length) (sz := 1) hi (by simp)
theorem Mem.rd_arrl {α : Type} {f : α → Value} {w0 w : World} {own : List Nat} {H : List Ch} (m : Mem w0 own H w) {i b : Nat} {xs : List α} {E : TypeId} {fz : Nat × Nat} (hi : H[i]? = some (.blk b (.cells (arr f xs) E fz))) (l k : Nat) (hlk : l + k ≤ xs.length) : Rd w (some ⟨b, l, none⟩) k 1 (((xs.drop l).take k).map f) := by
  refine ⟨by simp; omega, fun j x hj => ⟨rfl, ?_⟩⟩
  have hj' := (List.getElem?_eq_some_iff.1 hj).1
  simp only [List.length_map, List.length_take, List.length_drop] at hj'
  rw [adr, Option.getD_some, Addr.add_mk, cell_of_heap (m.blk hi)]
  simp only [List.getElem?_map, List.getElem?_take, List.getElem?_drop] at hj ⊢
  rw [if_pos (by omega)] at hj
  simpa using hj
/-- s[:h] -/
theorem y_slice_sl0 {t e : TypeId} {x : Operand} {lo hi : Option Operand} {ad : Option Addr} {len cap sz : Nat} (ht : slB P t e = true) (hs : szB P e sz = true) (hx : ev L x = some (.slice ad len cap)) (h : Nat) (hh : obnd L hi len h) (hl : obnd L lo 0 0) (b2 : h ≤ cap) : Yld P ⟨d, .slice t x lo hi none, ty, pos, af, g⟩ L M (.slice ad h cap) := by
  have := y_slice_sl (d := d) (ty := ty) (pos := pos) (af := af) (g := g) (M := M) (lo := lo) (hi := hi) (mx := none) ht hs hx cap h 0 rfl hh hl (by simp) (Nat.le_refl _) b2 (Nat.zero_le _)
  simpa [sub_zero] using this
theorem y_slice_ar0 {t e : TypeId} {x : Operand} {lo hi : Option Operand} {b len sz : Nat} (ht : arB P t len e = true) (hs : szB P e sz = true) (hx : ev L x = some (.pointer (some ⟨b, 0, none⟩))) (h : Nat) (hh : obnd L hi len h) (hl : obnd L lo 0 0) (b2 : h ≤ len) : Yld P ⟨d, .slice t x lo hi none, ty, pos, af, g⟩ L M (.slice (some ⟨b, 0, none⟩) h len) := by
  have := y_slice_ar (d := d) (ty := ty) (pos := pos) (af := af) (g := g) (M := M) (lo := lo) (hi := hi) (mx := none) ht hs hx len h 0 rfl hh hl (by simp) (Nat.le_refl _) b2 (Nat.zero_le _)
  simpa [sub_zero] using this
theorem y_slice_arl {t e : TypeId} {x : Operand} {lo hi : Option Operand} {b len sz : Nat} (ht : arB P t len e = true) (hs : szB P e sz = true) (hx : ev L x = some (.pointer (some ⟨b, 0, none⟩))) (l h o : Nat) (hh : obnd L hi len h) (hl : obnd L lo 0 l) (b2 : h ≤ len) (b3 : l ≤ h) (b4 : l < len) (ho : l * sz = o) : Yld P ⟨d, .slice t x lo hi none, ty, pos, af, g⟩ L M (.slice (some ⟨b, o, none⟩) (h - l) (len - l)) := by
  have := y_slice_ar (d := d) (ty := ty) (pos := pos) (af := af) (g := g) (M := M) (lo := lo) (hi := hi) (mx := none) ht hs hx len h l rfl hh hl (by simp) (Nat.le_refl _) b2 b3
  subst ho
  have e : sub (some ⟨b, 0, none⟩) (len - l) (l * sz) = some ⟨b, l * sz, none⟩ := by
    unfold sub; rw [if_neg (by omega)]; simp
  rwa [e] at this
/-- an element of a slice of an array that is held -/
theorem y_indexAddr_slb {t e : TypeId} {x y : Operand} {len cap k b o : Nat} {q : IntKind} {i : Int} (ht : slB P t e = true) (hk : szB P e k = true) (hx : ev L x = some (.slice (some ⟨b, o, none⟩) len cap)) (hy : ev L y = some (.int q i)) (h0 : 0 ≤ i) (h1 : i < len) (m : Nat) (hm : o + i.toNat * k = m) :
    Yld P ⟨d, .indexAddr t x y, ty, pos, af, g⟩ L M (.pointer (some ⟨b, m, none⟩)) := by
  have := y_indexAddr_sl (d := d) (ty := ty) (pos := pos) (af := af) (g := g) (M := M) ht hk hx hy h0 h1 (fun _ _ => rfl) _ rfl
  rw [adr, Option.getD_some, Addr.add_mk, hm] at this
  exact this
/-- a store into a slice that is owned -/
theorem e_store_sl {t E : TypeId} {x y : Operand} {i k m cap : Nat} {ad : Option Addr} {xs : List Value} {v : Value} {H' : List Ch} (hs : szB P t 1 = true) (hx : ev L x = some (.pointer (some (adr ad k)))) (hy : ev L y = some v) (hi : H[i]? = some (.sl ad m cap E 1 xs)) (hone : v.oneCell' = true) (hk : k < m)
    (hH : SetAt H i (.sl ad m cap E 1 (xs.set k v)) H') : Eff F P ⟨d, .store t x y, ty, pos, af, g⟩ L (Mem w0 own H) (fun _ : Unit => undef) (fun _ => Mem w0 own H') := eff_mk fun ρ w he mm => by
  have hsat := mm.sat _ (List.mem_of_getElem? hi)
  have hc : v.cells = #[v] := by cases v <;> first | rfl | simp [Value.oneCell'] at hone
  cases ad with
  | none => obtain ⟨rfl, _, _⟩ := hsat; omega
  | some q =>
    cases cap with
    | zero => obtain ⟨rfl, _, _⟩ := hsat; omega
    | succ cap =>
      obtain ⟨h0, hsp, hkc, hlen, rest, hrest, hb⟩ := hsat
      obtain ⟨qb, qo, qs⟩ := q
      simp only at h0 hsp hb; subst h0; subst hsp
      rw [adr, Option.getD_some, Addr.add_mk, Nat.zero_add] at hx
      have hsz : k < (xs ++ rest).toArray.size := by simp; omega
      obtain ⟨w', hr, hu⟩ := run_storeVar (P := P) (o := k) hs (by rw [hc]; rfl) hb (by omega) (by rw [hc]; simpa using hone)
      refine ⟨(), w', .inr ⟨by simp [execOp, he _ _ hx, he _ _ hy, Instr.storeAt, Instr.sureAddr, hr], rfl⟩, ?_⟩
      rw [hH.eq]
      refine mm.change hi (fun b hb' => .inl (by simpa [Ch.keys] using hb')) hu.os hu.tape hu.output (by rw [hu.size]; exact Nat.le_refl _) (fun b _ hbn => hu.rest b (by simpa [Ch.keys] using hbn)) ?_
      refine ⟨rfl, rfl, hkc, by simpa using hlen, rest, by simpa using hrest, ?_⟩
      show w'.heap[qb]? = _
      rw [hu.blk, hc]
      simp only [setR]
      congr 2
      rw [List.setIfInBounds_toArray, List.set_append_left _ _ (by omega)]
theorem y_min2n {a b : Nat} {x y : Operand} {tys : Array TypeId} (hx : ev L x = some (ki (a : Int))) (hy : ev L y = some (ki (b : Int))) : Yld P ⟨d, .call ⟨.builtin .min, #[x, y], tys⟩, ty, pos, af, g⟩ L M (ki ((min a b : Nat) : Int)) := by
  have := y_min2 (P := P) (d := d) (ty := ty) (pos := pos) (af := af) (g := g) (M := M) (tys := tys) hx hy
  have e : min (a : Int) (b : Int) = ((min a b : Nat) : Int) := by omega
  rwa [e] at this
theorem y_max2n {a b : Nat} {x y : Operand} {tys : Array TypeId} (hx : ev L x = some (ki (a : Int))) (hy : ev L y = some (ki (b : Int))) : Yld P ⟨d, .call ⟨.builtin .max, #[x, y], tys⟩, ty, pos, af, g⟩ L M (ki ((max a b : Nat) : Int)) := by
  have := y_max2 (P := P) (d := d) (ty := ty) (pos := pos) (af := af) (g := g) (M := M) (tys := tys) hx hy
  have e : max (a : Int) (b : Int) = ((max a b : Nat) : Int) := by omega
  rwa [e] at this
theorem c_rds0 {w : World} {ad : Option Addr} {m : Nat} {xs : List Value} (h : Rd w ad m 1 xs) {cs : List Value} (k : Nat) (hcs : cs = xs.take k) : ∀ j v, cs[j]? = some v → w.cell? ((adr ad 0).add j) = some v :=
  hcs ▸ c_rds (M := fun w' => w' = w) (fun _ e => e ▸ h) k w rfl
section mapped
variable {α : Type} {f : α → Value} [One f]
theorem map_one (l : List α) : ∀ u ∈ l.map f, u.oneCell' = true := by
  intro u hu
  obtain ⟨x, _, rfl⟩ := List.mem_map.1 hu
  exact One.one x
theorem e_store_slm {t E : TypeId} {x y : Operand} {i k m cap : Nat} {ad : Option Addr} {xs : List α} {x' : α} {H' : List Ch} (hs : szB P t 1 = true) (hx : ev L x = some (.pointer (some (adr ad k)))) (hy : ev L y = some (f x')) (hi : H[i]? = some (.sl ad m cap E 1 (xs.map f))) (hk : k < m)
    (hH : SetAt H i (.sl ad m cap E 1 ((xs.set k x').map f)) H') : Eff F P ⟨d, .store t x y, ty, pos, af, g⟩ L (Mem w0 own H) (fun _ : Unit => undef) (fun _ => Mem w0 own H') :=
  e_store_sl hs hx hy hi (One.one x') hk (by rw [← List.map_set]; exact hH)
theorem e_appendm {xs news : List α} {t E : TypeId} {x y : Operand} {i k cap bytes m c : Nat} {z : Value} {ad a : Option Addr} {tys : Array TypeId} {H' : Option Addr × Nat → List Ch}
    (ht : slB P t E = true) (hE : elB P E 1 bytes z) (hzs : z.cells.size = 1) (htys : tys = #[t, t]) (hx : ev L x = some (.slice ad k cap)) (hy : ev L y = some (.slice a m c))
    (hi : H[i]? = some (.sl ad k cap E 1 (xs.map f))) (hr : ∀ w, Mem w0 own H w → Rd w a m 1 (news.map f)) (b1 : (k + m) * bytes ≤ 140737488355328) (b0 : k + m ≤ 140737488355328) (km : Nat) (hkm : k + m = km) {ys : List α} (hys : xs ++ news = ys)
    (hH : ∀ r : Option Addr × Nat, SetAt H i (.sl r.1 km r.2 E 1 (ys.map f)) (H' r)) :
    Eff F P ⟨d, .call ⟨.builtin .append, #[x, y], tys⟩, ty, pos, af, g⟩ L (Mem w0 own H) (fun r : Option Addr × Nat => .slice r.1 km r.2) (fun r => Mem w0 own (H' r)) := by
  subst hkm; subst hys
  exact e_append ht hE hzs (by decide) htys hx hy hi hr (map_one news) b1 b0 (by simpa only [List.map_append] using hH)
theorem e_makeSlm {t E : TypeId} {x y : Operand} {bytes : Nat} {zv : Value} {z : α} {kl kc : IntKind} {i j : Int} (l c : Nat) (ht : slB P t E = true) (hE : elB P E 1 bytes zv) (hzv : zv = f z) (hx : ev L x = some (.int kl i)) (hy : ev L y = some (.int kc j)) (hi : i = (l : Int)) (hj : j = (c : Int))
    (hlc : l ≤ c) (hb : bytes * c ≤ 281474976710656) (hc : c ≤ 9223372036854775807) {H' : Nat → List Ch} (hH : ∀ b : Nat, Ch.sl (some ⟨b, 0, none⟩) l c E 1 ((List.replicate l z).map f) :: H = H' b) :
    Eff F P ⟨d, .makeSlice t x y, ty, pos, af, g⟩ L (Mem w0 own H) (fun b : Nat => .slice (some ⟨b, 0, none⟩) l c) (fun b => Mem w0 own (H' b)) := by
  have hz1 : zv.cells = #[zv] := by
    subst hzv
    have := One.one (f := f) z
    cases h : f z <;> first | rfl | (rw [h] at this; simp [Value.oneCell'] at this)
  have := e_makeSlice (F := F) (P := P) (d := d) (ty := ty) (pos := pos) (af := af) (g := g) (w0 := w0) (own := own) (H := H) l c ht hE hz1 rfl hx hy hi hj hlc hb hc
  subst hzv
  rw [show H' = fun b => Ch.sl (some ⟨b, 0, none⟩) l c E 1 ((List.replicate l z).map f) :: H from funext fun b => (hH b).symm]
  simpa only [List.map_replicate] using this
end mapped
theorem arr_extract {α : Type} {f : α → Value} (l : List α) (i k : Nat) : (arr f l).extract i (i + k) = arr f ((l.drop i).take k) := by
  simp [arr, List.map_drop, List.map_take, List.extract_eq_take_drop]
abbrev kn (n : Nat) : Value := .int .i64 (n : Int)
instance : One kn := ⟨fun _ => rfl⟩
theorem run_loadVar_all {w : World} {t : TypeId} {k b : Nat} {cs : Array Value} {E : TypeId} {fz : Nat × Nat} (hs : agB P t k = true) (hb : w.heap[b]? = some (.cells cs E fz)) (hk : cs.size = k) : (loadVar t ⟨b, 0, none⟩).run P w = .ok (.agg cs) w := by
  have := run_loadVar_ag (P := P) (w := w) (a := ⟨b, 0, none⟩) (cs := cs.toList) hs (by simpa using hk) fun j v hj => by
    rw [Addr.add_mk, Nat.zero_add, cell_of_heap hb]; simpa using hj
  simpa using this
theorem shrn_i64 {a k : Nat} {q : IntKind} (hk : k ≤ 63) : bin .shr (ki (a : Int)) (.int q (k : Int)) = some (ki ((a / 2 ^ k : Nat) : Int)) := by
  have h : ¬ ((k : Int) < 0) := by omega
  have hm : min (k : Int).toNat IntKind.i64.bits = k := by simp [IntKind.bits]; omega
  simp only [bin, if_neg h, hm]
  have : ((a : Int).fdiv (2 ^ k)) = ((a / 2 ^ k : Nat) : Int) := by
    rw [Int.fdiv_eq_ediv_of_nonneg _ (Int.le_of_lt (Int.pow_pos (by decide)))]
    push_cast; rfl
  rw [this]
end
end Go.Mc
