/- Lemmas and contracts for the proof of this seat's statements (Sl). No condition. -/
import Derived.Test.YtnkldldojalklaaEArr
import Derived.Laws.AppendOwn
import Derived.Laws.CopyRow
set_option linter.all false
namespace Go.Mc

/-- what an element's type is: its cells, its bytes, its nought -/
def elB (P : Program) (e : TypeId) (sz bytes : Nat) (z : Value) : Prop := ∃ i, P.info? e = some i ∧ i.size = sz ∧ i.bytes = bytes ∧ i.zero = some z
theorem elB_of {P : Program} {e : TypeId} {sz bytes : Nat} {z : Value} (h1 : szB P e sz = true) (h2 : byB P e bytes = true) (h3 : znB P e z) : elB P e sz bytes z := by
  unfold szB at h1; unfold byB at h2; unfold znB at h3
  cases hi : P.info? e with
  | none => simp [hi] at h1
  | some i => rw [hi] at h1 h2 h3; exact ⟨i, hi, by simpa using h1, by simpa using h2, h3⟩

theorem run_first {P : Program} {w : World} {ad : Option Addr} {n sz : Nat} {xs : List Value} (h : Rd w ad n sz xs) (len cap : Nat) : (Builtin.firstCells sz n (.slice ad len cap)).run P w = .ok xs.toArray w := by
  cases ad with
  | none =>
    have : xs = [] := by
      cases xs with
      | nil => rfl
      | cons x xs => exact absurd (h.2 0 x rfl).1 (by simp)
    subst this; exact run_firstCells_none w sz n len cap
  | some a => exact run_firstCells_some w sz n a len cap xs h.1 fun j v hj => by simpa [adr] using (h.2 j v hj).2

theorem Rd.drew {w : World} {ad : Option Addr} {n sz : Nat} {xs : List Value} (h : Rd w ad n sz xs) : Rd w.drew ad n sz xs := h

theorem run_grow {P : Program} (w : World) (t ty e : TypeId) (i : TypeInfo) (z : Value) (ht : P.underlying t = some (.slice e)) (hi : P.info? e = some i) (hz : i.zero = some z)
    {b a : Option Addr} {sLen sCap n c : Nat} {olds news : List Value} (ho : Rd w b sLen i.size olds) (hn : Rd w a n i.size news)
    (hg : sCap < sLen + n) (h63 : ((sLen + n : Nat) : Int) ≤ 9223372036854775807) (hfit : Builtin.nextslicecap (sLen + n) sCap * i.bytes ≤ 281474976710656) :
    (Builtin.append_ #[t, t] ty #[.slice b sLen sCap, .slice a n c]).run P w =
      .ok (.slice (some ⟨w.heap.size, 0, none⟩) (sLen + n) (grownCap w (sLen + n) sCap e))
        (w.drew.alloc (.cells (olds.toArray ++ news.toArray ++ Builtin.zeroCells z.cells (grownCap w (sLen + n) sCap e - (sLen + n))) e)) := by
  have hn' : ¬ (sLen + n ≤ sCap) := by omega
  have h63' : ¬ (9223372036854775807 < ((sLen : Int) + (n : Int))) := by omega
  have h48' : ¬ (281474976710656 < Builtin.nextslicecap (sLen + n) sCap * i.bytes) := by omega
  have hf := run_first (P := P) hn.drew n c
  have hfo := run_first (P := P) ho.drew sLen sCap
  simp [Builtin.append_, run_underlying ht, sizeOf, typeInfo, zeroValue, hi, hz, Builtin.lenOf, hn', h63', h48', Question.forced, hf, hfo, newRow, grownCap]
  congr 2; rw [← Array.append_assoc]; simp

section
variable {F : Fence} {P : Program} {n : Nat} {L : List (Nat × Value)} {M : World → Prop} {w0 : World} {own : List Nat} {H : List Ch}
variable {d : Option Tmp} {ty : TypeId} {pos : String} {af : Array Edge} {g : Option (Nat × Bool)}

theorem sat_new {w : World} {n cap sz : Nat} {E : TypeId} {xs rest : List Value} (hl : xs.length = n * sz) (hc : n ≤ cap) (h0 : 0 < cap) (hr : cap * sz ≤ xs.length + rest.length) :
    (Ch.sl (some ⟨w.heap.size, 0, none⟩) n cap E sz xs).sat (World.at (w.alloc (.cells (xs ++ rest).toArray E))) := by
  obtain ⟨c, rfl⟩ := Nat.exists_eq_succ_of_ne_zero (Nat.pos_iff_ne_zero.1 h0)
  exact ⟨rfl, rfl, hc, hl, rest, hr, heap_alloc_new w _⟩

/-- append: what is owned grows -/
theorem e_append {t E : TypeId} {x y : Operand} {i k cap sz bytes m c : Nat} {z : Value} {ad a : Option Addr} {xs news : List Value} {tys : Array TypeId} {H' : Option Addr × Nat → List Ch}
    (ht : slB P t E = true) (hE : elB P E sz bytes z) (hzs : z.cells.size = sz) (hsz : 0 < sz) (htys : tys = #[t, t]) (hx : ev L x = some (.slice ad k cap)) (hy : ev L y = some (.slice a m c))
    (hi : H[i]? = some (.sl ad k cap E sz xs)) (hr : ∀ w, Mem w0 own H w → Rd w a m sz news) (hone : ∀ u ∈ news, u.oneCell' = true) (b1 : (k + m) * bytes ≤ 140737488355328) (b0 : k + m ≤ 140737488355328)
    (hH : ∀ r, SetAt H i (.sl r.1 (k + m) r.2 E sz (xs ++ news)) (H' r)) :
    Eff F P ⟨d, .call ⟨.builtin .append, #[x, y], tys⟩, ty, pos, af, g⟩ L (Mem w0 own H) (fun r : Option Addr × Nat => .slice r.1 (k + m) r.2) (fun r => Mem w0 own (H' r)) := eff_mk fun ρ w he m' => by
  obtain ⟨ti, hti, hs1, hs2, hz⟩ := hE
  subst hs1; subst hs2; subst htys
  have hn := hr w m'
  have ho := m'.rd_sl hi
  have hsat := m'.sat _ (List.mem_of_getElem? hi)
  have hrun : ∀ v w', (Builtin.append_ #[t, t] ty #[.slice ad k cap, .slice a m c]).run P w = .ok v w' → (execOp ρ ⟨d, .call ⟨.builtin .append, #[x, y], #[t, t]⟩, ty, pos, af, g⟩).run P w = .ok (.value v) w' := by
    intro v w' h
    simp [execOp, resolve, invoke, builtin, he _ _ hx, he _ _ hy, h]
  have hlen : (xs ++ news).length = (k + m) * ti.size := by rw [List.length_append, ho.1, hn.1, Nat.add_mul]
  by_cases hroom : k + m ≤ cap
  · -- there is room
    refine ⟨(ad, cap), ?_⟩
    cases cap with
    | zero =>
      have hk : k = 0 := by omega
      have hm : m = 0 := by omega
      subst hk; subst hm
      have hx0 : xs = [] := List.eq_nil_of_length_eq_zero (by simpa using ho.1)
      have hn0 : news = [] := List.eq_nil_of_length_eq_zero (by simpa using hn.1)
      subst hx0; subst hn0
      refine ⟨w, .inl (hrun _ _ ?_), ?_⟩
      · have hf := run_first (P := P) hn 0 c
        cases ad <;> simp [Builtin.append_, run_underlying (und_sl ht), sizeOf, typeInfo, hti, Builtin.lenOf, hf, Instr.storeAt]; try rfl
      · rw [(hH (ad, 0)).eq]
        have : H.set i (.sl ad (0 + 0) 0 E ti.size ([] ++ [])) = H := by
          obtain ⟨h1, h2⟩ := List.getElem?_eq_some_iff.1 hi
          apply List.ext_getElem? ; intro j
          rw [List.getElem?_set]
          by_cases hj : i = j
          · subst hj; simp [h1]; exact h2.symm
          · simp [hj]
        simp only; rw [this]; exact m'
    | succ cap =>
      cases ad with
      | none => obtain ⟨_, h2, _⟩ := hsat; cases h2
      | some q =>
        obtain ⟨h0, hsp, hkc, _, rest, hrest, hb⟩ := hsat
        obtain ⟨qb, qo, qs⟩ := q
        simp only at h0 hsp; subst h0; subst hsp
        have hl2 : k * ti.size + news.length ≤ (xs ++ rest).toArray.size := by
          have := Nat.mul_le_mul_right ti.size hroom
          rw [Nat.add_mul] at this
          simp only [List.size_toArray, List.length_append, hn.1]; omega
        obtain ⟨w', hst, hu⟩ := run_storeCells (P := P) (b := qb) (E := E) news (k * ti.size) 0 (xs ++ rest).toArray w hb (by simpa using hl2) hone
        refine ⟨w', .inl (hrun _ _ ?_), ?_⟩
        · have hf := run_first (P := P) hn m c
          simp [Builtin.append_, run_underlying (und_sl ht), sizeOf, typeInfo, hti, Builtin.lenOf, hroom, hf, hst]
        · rw [(hH _).eq]
          refine m'.change hi (fun b hb' => .inl ?_) hu.os hu.tape hu.output (by rw [hu.size]; exact Nat.le_refl _) (fun b _ hbn => hu.rest b (by simpa [Ch.keys] using hbn)) ?_
          · simpa [Ch.keys] using hb'
          · refine ⟨rfl, rfl, hroom, hlen, rest.drop news.length, ?_, ?_⟩
            · simp only [List.length_append, List.length_drop]; omega
            · show w'.heap[qb]? = _
              rw [hu.blk]
              congr 2
              apply Array.ext_getElem?
              intro j
              rw [setR_get _ _ _ _ (by simpa using hl2)]
              have hx1 := ho.1
              simp only [Nat.add_zero, List.getElem?_toArray]
              by_cases h1 : j < xs.length
              · rw [if_neg (by omega), List.getElem?_append_left h1, List.append_assoc, List.getElem?_append_left h1]
              · by_cases h2 : j < xs.length + news.length
                · rw [if_pos (by omega), List.append_assoc, List.getElem?_append_right (by omega), List.getElem?_append_left (by omega), hx1]
                · rw [if_neg (by omega), List.getElem?_append_right (by omega), List.getElem?_append_right (by simp; omega), List.getElem?_drop]
                  congr 1; simp; omega
  · have hge := grownCap_ge w (k + m) cap E
    refine ⟨(some ⟨w.heap.size, 0, none⟩, grownCap w (k + m) cap E), _, .inl (hrun _ _ (run_grow w t ty E ti z (und_sl ht) hti hz ho hn (by omega) (by omega) (growslice_fits (by omega) b1))), ?_⟩
    rw [(hH _).eq]
    have hpos : 0 < grownCap w (k + m) cap E := by omega
    have hs := sat_new (w := w.drew) (n := k + m) (cap := grownCap w (k + m) cap E) (sz := ti.size) (E := E) (xs := xs ++ news) (rest := (Builtin.zeroCells z.cells (grownCap w (k + m) cap E - (k + m))).toList) hlen hge hpos
      (by rw [hlen, Array.length_toList, size_zeroCells, hzs, ← Nat.add_mul]; exact Nat.mul_le_mul_right _ (by omega))
    have hcell : (xs.toArray ++ news.toArray ++ Builtin.zeroCells z.cells (grownCap w (k + m) cap E - (k + m))) = ((xs ++ news) ++ (Builtin.zeroCells z.cells (grownCap w (k + m) cap E - (k + m))).toList).toArray := by
      simp
    rw [hcell]
    refine m'.change hi (fun b hb' => .inr ?_) rfl rfl rfl (by simp) (fun b hb _ => Go.RowKit.Below.heap_alloc _ _ _ hb) hs
    obtain ⟨cc, hcc⟩ := Nat.exists_eq_succ_of_ne_zero (Nat.pos_iff_ne_zero.1 hpos)
    simp only [hcc, Ch.keys, List.mem_singleton] at hb'
    subst hb'; exact Nat.le_refl _

/-- the bounds of a slice expression -/
def obnd (L : List (Nat × Value)) (o : Option Operand) (d r : Nat) : Prop :=
  match o with
  | none => r = d
  | some x => ∃ k i, ev L x = some (.int k i) ∧ i = (r : Int)

theorem run_bound {w : World} {k : IntKind} {i : Int} {r y : Nat} {code : BoundsCode} (h : i = (r : Int)) (hr : r ≤ y) : (Instr.sliceBound (.int k i) y code).run P w = .ok r w := by
  subst h
  simp [Instr.sliceBound, asIntOf, hr]

theorem run_bounds {ρ : Operand → Value} {w : World} {isS : Bool} {len cap : Nat} {lo hi mx : Option Operand} {l h m : Nat} (he : Ev L ρ) (hm : obnd L mx cap m) (hh : obnd L hi len h) (hl : obnd L lo 0 l) (hmx : mx.isSome = true → hi.isSome = true)
    (b1 : m ≤ cap) (b2 : h ≤ m) (b3 : l ≤ h) : (Instr.sliceBounds isS len cap (lo.map ρ) (hi.map ρ) (mx.map ρ)).run P w = .ok (l, h, m) w := by
  have key : ∀ (x : Operand) (r y : Nat) (code : BoundsCode), (∃ k i, ev L x = some (.int k i) ∧ i = (r : Int)) → r ≤ y → (Instr.sliceBound (ρ x) y code).run P w = .ok r w := by
    rintro x r y code ⟨k, i, h1, h2⟩ h3
    rw [he _ _ h1]; exact run_bound h2 h3
  cases mx with
  | none =>
    have hm' : m = cap := hm
    subst hm'
    cases hi with
    | none =>
      have hh' : h = len := hh
      subst hh'
      cases lo with
      | none => have hl' : l = 0 := hl; subst hl'; simp [Instr.sliceBounds]
      | some x => simp [Instr.sliceBounds, key x l h _ hl b3]
    | some y =>
      cases lo with
      | none => have hl' : l = 0 := hl; subst hl'; simp [Instr.sliceBounds, key y h m _ hh b2]
      | some x => simp [Instr.sliceBounds, key y h m _ hh b2, key x l h _ hl b3]
  | some u =>
    cases hi with
    | none => exact absurd (hmx rfl) (by simp)
    | some y =>
      cases lo with
      | none => have hl' : l = 0 := hl; subst hl'; simp [Instr.sliceBounds, key u m cap _ hm b1, key y h m _ hh b2]
      | some x => simp [Instr.sliceBounds, key u m cap _ hm b1, key y h m _ hh b2, key x l h _ hl b3]

/-- a slice of a slice -/
theorem y_slice_sl {t e : TypeId} {x : Operand} {lo hi mx : Option Operand} {ad : Option Addr} {len cap sz : Nat} (ht : slB P t e = true) (hs : szB P e sz = true) (hx : ev L x = some (.slice ad len cap)) (m h l : Nat) (hm : obnd L mx cap m) (hh : obnd L hi len h) (hl : obnd L lo 0 l)
    (hmx : mx.isSome = true → hi.isSome = true) (b1 : m ≤ cap) (b2 : h ≤ m) (b3 : l ≤ h) : Yld P ⟨d, .slice t x lo hi mx, ty, pos, af, g⟩ L M (.slice (sub ad (m - l) (l * sz)) (h - l) (m - l)) := .mk fun ρ w he _ => by
  have hb := run_bounds (P := P) (w := w) (isS := true) he hm hh hl hmx b1 b2 b3
  simp [execOp, Instr.sliceAt, Instr.slice, run_under (und_sl ht), he _ _ hx, hb, run_sizeOf hs, sub]
  by_cases h0 : m = l
  · subst h0; simp
  · rw [if_neg h0, if_neg (by omega)]
/-- a slice of an array behind its address -/
theorem y_slice_ar {t e : TypeId} {x : Operand} {lo hi mx : Option Operand} {b len sz : Nat} (ht : arB P t len e = true) (hs : szB P e sz = true) (hx : ev L x = some (.pointer (some ⟨b, 0, none⟩))) (m h l : Nat) (hm : obnd L mx len m) (hh : obnd L hi len h) (hl : obnd L lo 0 l)
    (hmx : mx.isSome = true → hi.isSome = true) (b1 : m ≤ len) (b2 : h ≤ m) (b3 : l ≤ h) : Yld P ⟨d, .slice t x lo hi mx, ty, pos, af, g⟩ L M (.slice (sub (some ⟨b, 0, none⟩) (m - l) (l * sz)) (h - l) (m - l)) := .mk fun ρ w he _ => by
  have hb := run_bounds (P := P) (w := w) (isS := false) he hm hh hl hmx b1 b2 b3
  simp [execOp, Instr.sliceAt, run_under (und_ar ht), he _ _ hx, hb, run_sizeOf hs, sub, Instr.sureAddr]
  by_cases h0 : m = l
  · subst h0; simp
  · rw [if_neg h0, if_neg (by omega)]
/-- a cell of whatever reads so -/
theorem c_of {w0 : World} {own : List Nat} {H : List Ch} {ad : Option Addr} {m sz k : Nat} {xs : List Value} {v : Value} (h : ∀ w, Mem w0 own H w → Rd w ad m sz xs) (hk : xs[k]? = some v) : ∀ w, Mem w0 own H w → w.cell? (adr ad k) = some v :=
  fun w m => ((h w m).2 k v hk).2
end
end Go.Mc
