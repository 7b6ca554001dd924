/- Lemmas and contracts for the proof of this seat's statements (Bk). No condition. -/
import Derived.Test.YtjibkjoaamchoaaGreatDoorEEngC
import Derived.Laws.AppendOwn
set_option linter.all false
namespace Go.Mc
section
variable {F : Fence} {P : Program} {n : Nat} {L : List (Nat × Value)} {M : World → Prop} {w0 : World} {own : List Nat} {H : List Ch}
variable {d : Option Tmp} {ty : TypeId} {pos : String} {af : Array Edge} {g : Option (Nat × Bool)}
/-- append where there is room: the same place -/
theorem r_append_in {t E : TypeId} {x y : Operand} {i k cap sz bytes m c : Nat} {z : Value} {ad a : Option Addr} {xs news : List Value} {tys : Array TypeId} {H' : List Ch}
    (ht : slB P t E = true) (hE : elB P E sz bytes z) (hzs : z.cells.size = sz) (hsz : 0 < sz) (htys : tys = #[t, t]) (hx : ev L x = some (.slice ad k cap)) (hy : ev L y = some (.slice a m c))
    (hi : H[i]? = some (.sl ad k cap E sz xs)) (hr : ∀ w, Mem w0 own H w → Rd w a m sz news) (hone : ∀ u ∈ news, u.oneCell' = true) (b1 : (k + m) * bytes ≤ 140737488355328) (b0 : k + m ≤ 140737488355328) (hroom : k + m ≤ cap)
    (hH : SetAt H i (.sl ad (k + m) cap E sz (xs ++ news)) H') :
    ∀ ρ w, Ev L ρ → Mem w0 own H w → ∃ (q : Unit) (w' : World), ((execOp ρ ⟨d, .call ⟨.builtin .append, #[x, y], tys⟩, ty, pos, af, g⟩).run P w = .ok (.value (.slice ad (k + m) cap)) w' ∨ ((execOp ρ ⟨d, .call ⟨.builtin .append, #[x, y], tys⟩, ty, pos, af, g⟩).run P w = .ok .skip w' ∧ (.slice ad (k + m) cap : Value) = undef)) ∧ Mem w0 own H' w' := fun ρ w he m' => by
  obtain ⟨ti, hti, hs1, hs2, hz⟩ := hE
  subst hs1; subst hs2; subst htys
  have hn := hr w m'
  have ho := m'.rd_sl hi
  have hsat := m'.sat _ (List.mem_of_getElem? hi)
  have hrun : ∀ v w', (Builtin.append_ #[t, t] ty #[.slice ad k cap, .slice a m c]).run P w = .ok v w' → (execOp ρ ⟨d, .call ⟨.builtin .append, #[x, y], #[t, t]⟩, ty, pos, af, g⟩).run P w = .ok (.value v) w' := by
    intro v w' h
    simp [execOp, resolve, invoke, builtin, he _ _ hx, he _ _ hy, h]
  have hlen : (xs ++ news).length = (k + m) * ti.size := by rw [List.length_append, ho.1, hn.1, Nat.add_mul]
  cases cap with
  | zero =>
    have hk : k = 0 := by omega
    have hm : m = 0 := by omega
    subst hk; subst hm
    have hx0 : xs = [] := List.eq_nil_of_length_eq_zero (by simpa using ho.1)
    have hn0 : news = [] := List.eq_nil_of_length_eq_zero (by simpa using hn.1)
    subst hx0; subst hn0
    refine ⟨(), w, .inl (hrun _ _ ?_), ?_⟩
    · have hf := run_first (P := P) hn 0 c
      cases ad <;> simp [Builtin.append_, run_underlying (und_sl ht), sizeOf, typeInfo, hti, Builtin.lenOf, hf, Instr.storeAt]; try rfl
    · rw [hH.eq]
      have : H.set i (.sl ad (0 + 0) 0 E ti.size ([] ++ [])) = H := by
        obtain ⟨h1, h2⟩ := List.getElem?_eq_some_iff.1 hi
        apply List.ext_getElem? ; intro j
        rw [List.getElem?_set]
        by_cases hj : i = j
        · subst hj; simp [h1]; exact h2.symm
        · simp [hj]
      rw [this]; exact m'
  | succ cap =>
    cases ad with
    | none => obtain ⟨_, h2, _⟩ := hsat; cases h2
    | some q =>
      obtain ⟨h0, hsp, hkc, _, rest, hrest, hb⟩ := hsat
      obtain ⟨qb, qo, qs⟩ := q
      simp only at h0 hsp; subst h0; subst hsp
      have hl2 : k * ti.size + news.length ≤ (xs ++ rest).toArray.size := by
        have := Nat.mul_le_mul_right ti.size hroom
        rw [Nat.add_mul] at this
        simp only [List.size_toArray, List.length_append, hn.1]; omega
      obtain ⟨w', hst, hu⟩ := run_storeCells (P := P) (b := qb) (E := E) news (k * ti.size) 0 (xs ++ rest).toArray w hb (by simpa using hl2) hone
      refine ⟨(), w', .inl (hrun _ _ ?_), ?_⟩
      · have hf := run_first (P := P) hn m c
        simp [Builtin.append_, run_underlying (und_sl ht), sizeOf, typeInfo, hti, Builtin.lenOf, hroom, hf, hst]
      · rw [hH.eq]
        refine m'.change hi (fun b hb' => .inl ?_) hu.os hu.tape hu.output (by rw [hu.size]; exact Nat.le_refl _) (fun b _ hbn => hu.rest b (by simpa [Ch.keys] using hbn)) ?_
        · simpa [Ch.keys] using hb'
        · refine ⟨rfl, rfl, hroom, hlen, rest.drop news.length, ?_, ?_⟩
          · simp only [List.length_append, List.length_drop]; omega
          · show w'.heap[qb]? = _
            rw [hu.blk]
            congr 2
            apply Array.ext_getElem?
            intro j
            rw [setR_get _ _ _ _ (by simpa using hl2)]
            have hx1 := ho.1
            simp only [Nat.add_zero, List.getElem?_toArray]
            by_cases h1 : j < xs.length
            · rw [if_neg (by omega), List.getElem?_append_left h1, List.append_assoc, List.getElem?_append_left h1]
            · by_cases h2 : j < xs.length + news.length
              · rw [if_pos (by omega), List.append_assoc, List.getElem?_append_right (by omega), List.getElem?_append_left (by omega), hx1]
              · rw [if_neg (by omega), List.getElem?_append_right (by omega), List.getElem?_append_right (by simp; omega), List.getElem?_drop]
                congr 1; simp; omega
/-- append where there is none: what was there stays -/
theorem r_append_mv {t E : TypeId} {x y : Operand} {i k cap sz bytes m c : Nat} {z : Value} {ad a : Option Addr} {xs news : List Value} {tys : Array TypeId}
    (ht : slB P t E = true) (hE : elB P E sz bytes z) (hzs : z.cells.size = sz) (hsz : 0 < sz) (htys : tys = #[t, t]) (hx : ev L x = some (.slice ad k cap)) (hy : ev L y = some (.slice a m c))
    (hi : H[i]? = some (.sl ad k cap E sz xs)) (hr : ∀ w, Mem w0 own H w → Rd w a m sz news) (hone : ∀ u ∈ news, u.oneCell' = true) (b1 : (k + m) * bytes ≤ 140737488355328) (b0 : k + m ≤ 140737488355328) (hroom : ¬ (k + m ≤ cap)) :
    ∀ ρ w, Ev L ρ → Mem w0 own H w → ∃ (q : Option Addr × Nat) (w' : World), ((execOp ρ ⟨d, .call ⟨.builtin .append, #[x, y], tys⟩, ty, pos, af, g⟩).run P w = .ok (.value (.slice q.1 (k + m) q.2)) w' ∨ ((execOp ρ ⟨d, .call ⟨.builtin .append, #[x, y], tys⟩, ty, pos, af, g⟩).run P w = .ok .skip w' ∧ (.slice q.1 (k + m) q.2 : Value) = undef)) ∧ Mem w0 own (.sl q.1 (k + m) q.2 E sz (xs ++ news) :: H) w' := fun ρ w he m' => by
  obtain ⟨ti, hti, hs1, hs2, hz⟩ := hE
  subst hs1; subst hs2; subst htys
  have hn := hr w m'
  have ho := m'.rd_sl hi
  have hsat := m'.sat _ (List.mem_of_getElem? hi)
  have hrun : ∀ v w', (Builtin.append_ #[t, t] ty #[.slice ad k cap, .slice a m c]).run P w = .ok v w' → (execOp ρ ⟨d, .call ⟨.builtin .append, #[x, y], #[t, t]⟩, ty, pos, af, g⟩).run P w = .ok (.value v) w' := by
    intro v w' h
    simp [execOp, resolve, invoke, builtin, he _ _ hx, he _ _ hy, h]
  have hlen : (xs ++ news).length = (k + m) * ti.size := by rw [List.length_append, ho.1, hn.1, Nat.add_mul]
  have hge := grownCap_ge w (k + m) cap E
  refine ⟨(some ⟨w.heap.size, 0, none⟩, grownCap w (k + m) cap E), _, .inl (hrun _ _ (run_grow w t ty E ti z (und_sl ht) hti hz ho hn (by omega) (by omega) (growslice_fits (by omega) b1))), ?_⟩
  have hpos : 0 < grownCap w (k + m) cap E := by omega
  have hs := sat_new (w := w.drew) (n := k + m) (cap := grownCap w (k + m) cap E) (sz := ti.size) (E := E) (xs := xs ++ news) (rest := (Builtin.zeroCells z.cells (grownCap w (k + m) cap E - (k + m))).toList) hlen hge hpos
    (by rw [hlen, Array.length_toList, size_zeroCells, hzs, ← Nat.add_mul]; exact Nat.mul_le_mul_right _ (by omega))
  have hcell : (xs.toArray ++ news.toArray ++ Builtin.zeroCells z.cells (grownCap w (k + m) cap E - (k + m))) = ((xs ++ news) ++ (Builtin.zeroCells z.cells (grownCap w (k + m) cap E - (k + m))).toList).toArray := by
    simp
  rw [hcell]
  obtain ⟨cc, hcc⟩ := Nat.exists_eq_succ_of_ne_zero (Nat.pos_iff_ne_zero.1 hpos)
  exact m'.push (c := .sl (some ⟨w.heap.size, 0, none⟩) (k + m) (grownCap w (k + m) cap E) E ti.size (xs ++ news)) (by simp [hcc, Ch.keys]) rfl rfl rfl (by simp) (fun b hb => Go.RowKit.Below.heap_alloc _ _ _ hb) hs
/-- either -/
theorem r_append_any {t E : TypeId} {x y : Operand} {i k cap sz bytes m c : Nat} {z : Value} {ad a : Option Addr} {xs news : List Value} {tys : Array TypeId} {H' : Option Addr × Nat → List Ch}
    (ht : slB P t E = true) (hE : elB P E sz bytes z) (hzs : z.cells.size = sz) (hsz : 0 < sz) (htys : tys = #[t, t]) (hx : ev L x = some (.slice ad k cap)) (hy : ev L y = some (.slice a m c))
    (hi : H[i]? = some (.sl ad k cap E sz xs)) (hr : ∀ w, Mem w0 own H w → Rd w a m sz news) (hone : ∀ u ∈ news, u.oneCell' = true) (b1 : (k + m) * bytes ≤ 140737488355328) (b0 : k + m ≤ 140737488355328)
    (hH : ∀ r, SetAt H i (.sl r.1 (k + m) r.2 E sz (xs ++ news)) (H' r)) :
    ∀ ρ w, Ev L ρ → Mem w0 own H w → ∃ (q : Option Addr × Nat) (w' : World), ((execOp ρ ⟨d, .call ⟨.builtin .append, #[x, y], tys⟩, ty, pos, af, g⟩).run P w = .ok (.value (.slice q.1 (k + m) q.2)) w' ∨ ((execOp ρ ⟨d, .call ⟨.builtin .append, #[x, y], tys⟩, ty, pos, af, g⟩).run P w = .ok .skip w' ∧ (.slice q.1 (k + m) q.2 : Value) = undef)) ∧ Mem w0 own (H' q) w' := fun ρ w he m' => by
  obtain ⟨ti, hti, hs1, hs2, hz⟩ := hE
  subst hs1; subst hs2; subst htys
  have hn := hr w m'
  have ho := m'.rd_sl hi
  have hsat := m'.sat _ (List.mem_of_getElem? hi)
  have hrun : ∀ v w', (Builtin.append_ #[t, t] ty #[.slice ad k cap, .slice a m c]).run P w = .ok v w' → (execOp ρ ⟨d, .call ⟨.builtin .append, #[x, y], #[t, t]⟩, ty, pos, af, g⟩).run P w = .ok (.value v) w' := by
    intro v w' h
    simp [execOp, resolve, invoke, builtin, he _ _ hx, he _ _ hy, h]
  have hlen : (xs ++ news).length = (k + m) * ti.size := by rw [List.length_append, ho.1, hn.1, Nat.add_mul]
  by_cases hroom : k + m ≤ cap
  · -- there is room
    refine ⟨(ad, cap), ?_⟩
    cases cap with
    | zero =>
      have hk : k = 0 := by omega
      have hm : m = 0 := by omega
      subst hk; subst hm
      have hx0 : xs = [] := List.eq_nil_of_length_eq_zero (by simpa using ho.1)
      have hn0 : news = [] := List.eq_nil_of_length_eq_zero (by simpa using hn.1)
      subst hx0; subst hn0
      refine ⟨w, .inl (hrun _ _ ?_), ?_⟩
      · have hf := run_first (P := P) hn 0 c
        cases ad <;> simp [Builtin.append_, run_underlying (und_sl ht), sizeOf, typeInfo, hti, Builtin.lenOf, hf, Instr.storeAt]; try rfl
      · rw [(hH (ad, 0)).eq]
        have : H.set i (.sl ad (0 + 0) 0 E ti.size ([] ++ [])) = H := by
          obtain ⟨h1, h2⟩ := List.getElem?_eq_some_iff.1 hi
          apply List.ext_getElem? ; intro j
          rw [List.getElem?_set]
          by_cases hj : i = j
          · subst hj; simp [h1]; exact h2.symm
          · simp [hj]
        simp only; rw [this]; exact m'
    | succ cap =>
      cases ad with
      | none => obtain ⟨_, h2, _⟩ := hsat; cases h2
      | some q =>
        obtain ⟨h0, hsp, hkc, _, rest, hrest, hb⟩ := hsat
        obtain ⟨qb, qo, qs⟩ := q
        simp only at h0 hsp; subst h0; subst hsp
        have hl2 : k * ti.size + news.length ≤ (xs ++ rest).toArray.size := by
          have := Nat.mul_le_mul_right ti.size hroom
          rw [Nat.add_mul] at this
          simp only [List.size_toArray, List.length_append, hn.1]; omega
        obtain ⟨w', hst, hu⟩ := run_storeCells (P := P) (b := qb) (E := E) news (k * ti.size) 0 (xs ++ rest).toArray w hb (by simpa using hl2) hone
        refine ⟨w', .inl (hrun _ _ ?_), ?_⟩
        · have hf := run_first (P := P) hn m c
          simp [Builtin.append_, run_underlying (und_sl ht), sizeOf, typeInfo, hti, Builtin.lenOf, hroom, hf, hst]
        · rw [(hH _).eq]
          refine m'.change hi (fun b hb' => .inl ?_) hu.os hu.tape hu.output (by rw [hu.size]; exact Nat.le_refl _) (fun b _ hbn => hu.rest b (by simpa [Ch.keys] using hbn)) ?_
          · simpa [Ch.keys] using hb'
          · refine ⟨rfl, rfl, hroom, hlen, rest.drop news.length, ?_, ?_⟩
            · simp only [List.length_append, List.length_drop]; omega
            · show w'.heap[qb]? = _
              rw [hu.blk]
              congr 2
              apply Array.ext_getElem?
              intro j
              rw [setR_get _ _ _ _ (by simpa using hl2)]
              have hx1 := ho.1
              simp only [Nat.add_zero, List.getElem?_toArray]
              by_cases h1 : j < xs.length
              · rw [if_neg (by omega), List.getElem?_append_left h1, List.append_assoc, List.getElem?_append_left h1]
              · by_cases h2 : j < xs.length + news.length
                · rw [if_pos (by omega), List.append_assoc, List.getElem?_append_right (by omega), List.getElem?_append_left (by omega), hx1]
                · rw [if_neg (by omega), List.getElem?_append_right (by omega), List.getElem?_append_right (by simp; omega), List.getElem?_drop]
                  congr 1; simp; omega
  · have hge := grownCap_ge w (k + m) cap E
    refine ⟨(some ⟨w.heap.size, 0, none⟩, grownCap w (k + m) cap E), _, .inl (hrun _ _ (run_grow w t ty E ti z (und_sl ht) hti hz ho hn (by omega) (by omega) (growslice_fits (by omega) b1))), ?_⟩
    rw [(hH _).eq]
    have hpos : 0 < grownCap w (k + m) cap E := by omega
    have hs := sat_new (w := w.drew) (n := k + m) (cap := grownCap w (k + m) cap E) (sz := ti.size) (E := E) (xs := xs ++ news) (rest := (Builtin.zeroCells z.cells (grownCap w (k + m) cap E - (k + m))).toList) hlen hge hpos
      (by rw [hlen, Array.length_toList, size_zeroCells, hzs, ← Nat.add_mul]; exact Nat.mul_le_mul_right _ (by omega))
    have hcell : (xs.toArray ++ news.toArray ++ Builtin.zeroCells z.cells (grownCap w (k + m) cap E - (k + m))) = ((xs ++ news) ++ (Builtin.zeroCells z.cells (grownCap w (k + m) cap E - (k + m))).toList).toArray := by
      simp
    rw [hcell]
    refine m'.change hi (fun b hb' => .inr ?_) rfl rfl rfl (by simp) (fun b hb _ => Go.RowKit.Below.heap_alloc _ _ _ hb) hs
    obtain ⟨cc, hcc⟩ := Nat.exists_eq_succ_of_ne_zero (Nat.pos_iff_ne_zero.1 hpos)
    simp only [hcc, Ch.keys, List.mem_singleton] at hb'
    subst hb'; exact Nat.le_refl _

end
/-- a list that more was put behind: in its own place while there was room, then elsewhere -/
def gCh (E : TypeId) (ad0 : Option Addr) (n cap0 : Nat) (xs : List Value) (ad : Option Addr) (cap j : Nat) (v : Value) : List Ch :=
  if n + j ≤ cap0 then [.sl ad0 (n + j) cap0 E 1 (xs ++ List.replicate j v)] else [.sl ad0 n cap0 E 1 xs, .sl ad (n + j) cap E 1 (xs ++ List.replicate j v)]
def gA (n cap0 j : Nat) (ad0 ad : Option Addr) : Option Addr := if n + j ≤ cap0 then ad0 else ad
def gC (n cap0 j cap : Nat) : Nat := if n + j ≤ cap0 then cap0 else cap
theorem gA_0 {n cap0 : Nat} {ad0 ad : Option Addr} (h : n ≤ cap0) : gA n cap0 0 ad0 ad = ad0 := if_pos h
theorem gC_0 {n cap0 cap : Nat} (h : n ≤ cap0) : gC n cap0 0 cap = cap0 := if_pos h
/-- a shorter look -/
theorem Ch.sat_short {h : Nat → Option Obj} {ad : Option Addr} {n j cap : Nat} {E : TypeId} {xs ys : List Value} (hs : (Ch.sl ad (n + j) cap E 1 (xs ++ ys)).sat h) (hx : xs.length = n) : (Ch.sl ad n cap E 1 xs).sat h := by
  cases ad with
  | none => obtain ⟨h1, h2, h3⟩ := hs; exact ⟨by omega, h2, (List.append_eq_nil_iff.1 h3).1⟩
  | some a =>
    cases cap with
    | zero => obtain ⟨h1, h2, h3⟩ := hs; exact ⟨by omega, h2, (List.append_eq_nil_iff.1 h3).1⟩
    | succ cap =>
      obtain ⟨h1, h2, h3, h4, rest, h5, h6⟩ := hs
      refine ⟨h1, h2, by omega, by omega, ys ++ rest, ?_, ?_⟩
      · simp only [List.length_append] at h5 ⊢; omega
      · rw [← List.append_assoc]; exact h6
theorem keys_sl (ad : Option Addr) (n m cap : Nat) (E : TypeId) (sz : Nat) (xs ys : List Value) : (Ch.sl ad n cap E sz xs).keys = (Ch.sl ad m cap E sz ys).keys := by
  cases ad <;> cases cap <;> rfl
section
variable {w0 w : World} {own : List Nat} {A T : List Ch} {E : TypeId} {ad0 ad : Option Addr} {n cap0 cap j : Nat} {xs : List Value} {v : Value}
theorem Mem.g0 (hn : n ≤ cap0) (m : Mem w0 own (A ++ (.sl ad0 n cap0 E 1 xs :: T)) w) : Mem w0 own (A ++ (gCh E ad0 n cap0 xs ad cap 0 v ++ T)) w := by
  unfold gCh
  rw [if_pos (show n + 0 ≤ cap0 from hn), List.replicate_zero, List.append_nil]
  exact m
/-- the list as it was -/
theorem Mem.g_l (m : Mem w0 own (gCh E ad0 n cap0 xs ad cap j v ++ T) w) (hx : xs.length = n) : Rd w ad0 n 1 xs := by
  unfold gCh at m
  by_cases h : n + j ≤ cap0
  · rw [if_pos h] at m
    have hs := Ch.sat_short (m.sat (.sl ad0 (n + j) cap0 E 1 (xs ++ List.replicate j v)) (by simp)) hx
    have hap : Mem w [] [] w := Mem.refl w
    have m2 : Mem w ((Ch.sl ad0 n cap0 E 1 xs).keys) [.sl ad0 n cap0 E 1 xs] w := by
      have := Mem.start (w := w) (H := [.sl ad0 n cap0 E 1 xs]) (by simpa using hs) (List.pairwise_singleton _ _)
      simpa using this
    exact m2.rd_sl (i := 0) rfl
  · rw [if_neg h] at m
    exact m.rd_sl (i := 0) rfl
/-- the longer one -/
theorem Mem.g_long (m : Mem w0 own (gCh E ad0 n cap0 xs ad cap j v ++ T) w) : Rd w (gA n cap0 j ad0 ad) (n + j) 1 (xs ++ List.replicate j v) := by
  unfold gCh at m
  unfold gA
  by_cases h : n + j ≤ cap0
  · rw [if_pos h] at m ⊢
    exact m.rd_sl (i := 0) rfl
  · rw [if_neg h] at m ⊢
    exact m.rd_sl (i := 1) rfl
end
theorem Mem.short {w0 w : World} {own : List Nat} {A T : List Ch} {E : TypeId} {ad : Option Addr} {n j cap : Nat} {xs ys : List Value} (m : Mem w0 own (A ++ (.sl ad (n + j) cap E 1 (xs ++ ys) :: T)) w) (hx : xs.length = n) : Mem w0 own (A ++ (.sl ad n cap E 1 xs :: T)) w := by
  have hk := keys_sl ad n (n + j) cap E 1 xs (xs ++ ys)
  have hs := Ch.sat_short (m.sat (.sl ad (n + j) cap E 1 (xs ++ ys)) (by simp)) hx
  refine ⟨m.os, m.tape, m.output, m.size, m.frame, fun c hc => ?_, ?_, fun c hc b hb => ?_⟩
  · rcases List.mem_append.1 hc with hc | hc
    · exact m.sat c (List.mem_append_left _ hc)
    · rcases List.mem_cons.1 hc with rfl | hc
      · exact hs
      · exact m.sat c (List.mem_append_right _ (List.mem_cons_of_mem _ hc))
  · obtain ⟨h1, h2, h3⟩ := List.pairwise_append.1 m.apart
    obtain ⟨h4, h5⟩ := List.pairwise_cons.1 h2
    refine List.pairwise_append.2 ⟨h1, List.pairwise_cons.2 ⟨fun c hc b hb => h4 c hc b (hk ▸ hb), h5⟩, fun c hc e he => ?_⟩
    rcases List.mem_cons.1 he with rfl | he
    · intro b hb hb'; exact h3 c hc _ (List.mem_cons_self ..) b hb (hk ▸ hb')
    · exact h3 c hc e (List.mem_cons_of_mem _ he)
  · rcases List.mem_append.1 hc with hc | hc
    · exact m.mine c (List.mem_append_left _ hc) b hb
    · rcases List.mem_cons.1 hc with rfl | hc
      · exact m.mine (.sl ad (n + j) cap E 1 (xs ++ ys)) (by simp) b (hk ▸ hb)
      · exact m.mine c (List.mem_append_right _ (List.mem_cons_of_mem _ hc)) b hb
section
variable {F : Fence} {P : Program} {L : List (Nat × Value)} {w0 : World} {own : List Nat} {A T H : List Ch}
variable {d : Option Tmp} {ty : TypeId} {pos : String} {af : Array Edge} {g : Option (Nat × Bool)}
theorem setAt_app {A B : List Ch} {c c' : Ch} : SetAt (A ++ (c :: B)) A.length c' (A ++ (c' :: B)) := by
  induction A with
  | nil => rfl
  | cons a A ih => exact ⟨_, rfl, ih⟩
/-- one more behind it -/
theorem e_append_g {t E : TypeId} {x y : Operand} {bytes j n cap0 cap : Nat} {z v : Value} {ad0 ad a : Option Addr} {xs : List Value} {c : Nat} {tys : Array TypeId}
    (ht : slB P t E = true) (hE : elB P E 1 bytes z) (hzs : z.cells.size = 1) (htys : tys = #[t, t]) (hx : ev L x = some (.slice (gA n cap0 j ad0 ad) (n + j) (gC n cap0 j cap))) (hy : ev L y = some (.slice a 1 c))
    (hr : ∀ w, Mem w0 own (A ++ (gCh E ad0 n cap0 xs ad cap j v ++ T)) w → Rd w a 1 1 [v]) (hone : v.oneCell' = true) (b1 : (n + j + 1) * bytes ≤ 140737488355328) (b0 : n + j + 1 ≤ 140737488355328) (hl : xs.length = n) :
    Eff F P ⟨d, .call ⟨.builtin .append, #[x, y], tys⟩, ty, pos, af, g⟩ L (Mem w0 own (A ++ (gCh E ad0 n cap0 xs ad cap j v ++ T))) (fun r : Option Addr × Nat => .slice (gA n cap0 (j + 1) ad0 r.1) (n + (j + 1)) (gC n cap0 (j + 1) r.2)) (fun r => Mem w0 own (A ++ (gCh E ad0 n cap0 xs r.1 r.2 (j + 1) v ++ T))) := by
  have hrep : xs ++ List.replicate (j + 1) v = (xs ++ List.replicate j v) ++ [v] := by rw [List.replicate_succ', List.append_assoc]
  by_cases h1 : n + (j + 1) ≤ cap0
  · have h0 : n + j ≤ cap0 := by omega
    have e1 : ∀ ad cap, gCh E ad0 n cap0 xs ad cap (j + 1) v = [.sl ad0 (n + j + 1) cap0 E 1 ((xs ++ List.replicate j v) ++ [v])] := fun ad cap => by unfold gCh; rw [if_pos h1, hrep]; rfl
    have e0 : gCh E ad0 n cap0 xs ad cap j v = [.sl ad0 (n + j) cap0 E 1 (xs ++ List.replicate j v)] := if_pos h0
    rw [e0] at hr ⊢
    have ea : gA n cap0 j ad0 ad = ad0 := if_pos h0
    have ec : gC n cap0 j cap = cap0 := if_pos h0
    rw [ea, ec] at hx
    have r := r_append_in (d := d) (ty := ty) (pos := pos) (af := af) (g := g) (i := A.length) (xs := xs ++ List.replicate j v) (news := [v]) ht hE hzs (by decide) htys hx hy (by simp) hr (by simpa using hone) b1 b0 h1 (setAt_app (c := .sl ad0 (n + j) cap0 E 1 (xs ++ List.replicate j v)))
    refine eff_mk fun ρ w he m => ?_
    obtain ⟨q0, w', hrun, hm⟩ := r ρ w he m
    refine ⟨(ad, cap), w', ?_, ?_⟩
    · rw [show gA n cap0 (j + 1) ad0 ad = ad0 from if_pos h1, show gC n cap0 (j + 1) cap = cap0 from if_pos h1]; exact hrun
    · rw [e1]; exact hm
  · have e1 : ∀ ad cap, gCh E ad0 n cap0 xs ad cap (j + 1) v = [.sl ad0 n cap0 E 1 xs, .sl ad (n + j + 1) cap E 1 ((xs ++ List.replicate j v) ++ [v])] := fun ad cap => by unfold gCh; rw [if_neg h1, hrep]; rfl
    have f1 : ∀ ad, gA n cap0 (j + 1) ad0 ad = ad := fun ad => if_neg h1
    have f2 : ∀ cap, gC n cap0 (j + 1) cap = cap := fun cap => if_neg h1
    by_cases h0 : n + j ≤ cap0
    · have e0 : gCh E ad0 n cap0 xs ad cap j v = [.sl ad0 (n + j) cap0 E 1 (xs ++ List.replicate j v)] := if_pos h0
      rw [e0] at hr ⊢
      have ea : gA n cap0 j ad0 ad = ad0 := if_pos h0
      have ec : gC n cap0 j cap = cap0 := if_pos h0
      rw [ea, ec] at hx
      have r := r_append_mv (d := d) (ty := ty) (pos := pos) (af := af) (g := g) (i := A.length) (xs := xs ++ List.replicate j v) (news := [v]) ht hE hzs (by decide) htys hx hy (by simp) hr (by simpa using hone) b1 b0 h1
      refine eff_mk fun ρ w he m => ?_
      obtain ⟨q, w', hrun, hm⟩ := r ρ w he m
      refine ⟨q, w', ?_, ?_⟩
      · rw [f1, f2]; exact hrun
      · rw [e1]
        have hm2 : Mem w0 own (A ++ ([.sl ad0 (n + j) cap0 E 1 (xs ++ List.replicate j v), .sl q.1 (n + j + 1) q.2 E 1 (xs ++ List.replicate j v ++ [v])] ++ T)) w' := by
          refine Mem.perm ?_ hm
          have : (A ++ ([Ch.sl ad0 (n + j) cap0 E 1 (xs ++ List.replicate j v), Ch.sl q.1 (n + j + 1) q.2 E 1 (xs ++ List.replicate j v ++ [v])] ++ T)).Perm (Ch.sl q.1 (n + j + 1) q.2 E 1 (xs ++ List.replicate j v ++ [v]) :: (A ++ ([Ch.sl ad0 (n + j) cap0 E 1 (xs ++ List.replicate j v)] ++ T))) := by
            refine List.Perm.trans (List.Perm.append_left A (List.Perm.swap _ _ _)) ?_
            exact List.perm_middle
          exact this.symm
        exact Mem.short hm2 hl
    · have e0 : gCh E ad0 n cap0 xs ad cap j v = [.sl ad0 n cap0 E 1 xs, .sl ad (n + j) cap E 1 (xs ++ List.replicate j v)] := if_neg h0
      rw [e0] at hr ⊢
      have ea : gA n cap0 j ad0 ad = ad := if_neg h0
      have ec : gC n cap0 j cap = cap := if_neg h0
      rw [ea, ec] at hx
      have hsplit : ∀ c : Ch, A ++ ([Ch.sl ad0 n cap0 E 1 xs, c] ++ T) = (A ++ [Ch.sl ad0 n cap0 E 1 xs]) ++ (c :: T) := fun c => by simp
      rw [hsplit] at hr ⊢
      have r := r_append_any (d := d) (ty := ty) (pos := pos) (af := af) (g := g) (i := (A ++ [Ch.sl ad0 n cap0 E 1 xs]).length) (xs := xs ++ List.replicate j v) (news := [v]) ht hE hzs (by decide) htys hx hy (by simp) hr (by simpa using hone) b1 b0 (fun r => setAt_app (c := .sl ad (n + j) cap E 1 (xs ++ List.replicate j v)))
      refine eff_mk fun ρ w he m => ?_
      obtain ⟨q, w', hrun, hm⟩ := r ρ w he m
      refine ⟨q, w', ?_, ?_⟩
      · rw [f1, f2]; exact hrun
      · rw [e1, hsplit]; exact hm
theorem e_store_slw {t E : TypeId} {x y : Operand} {i k o m cap sz : Nat} {ad : Option Addr} {xs : List Value} {v : Value} {H' : List Ch} (hs : szB P t 1 = true) (hx : ev L x = some (.pointer (some ((adr ad k).add o)))) (hy : ev L y = some v) (hi : H[i]? = some (.sl ad m cap E sz xs)) (hone : v.oneCell' = true) (hk : Nat.blt (k + o) xs.length = true) {xs' : List Value} (hxs : xs.set (k + o) v = xs')
    (hH : SetAt H i (.sl ad m cap E sz xs') H') : Eff F P ⟨d, .store t x y, ty, pos, af, g⟩ L (Mem w0 own H) (fun _ : Unit => undef) (fun _ => Mem w0 own H') := eff_mk fun ρ w he mm => by
  subst hxs
  rw [adr_add] at hx
  have hk := Nat.le_of_ble_eq_true hk
  have hsat := mm.sat _ (List.mem_of_getElem? hi)
  have hc : v.cells = #[v] := by cases v <;> first | rfl | simp [Value.oneCell'] at hone
  cases ad with
  | none => obtain ⟨_, _, h3⟩ := hsat; subst h3; simp at hk
  | some q =>
    cases cap with
    | zero => obtain ⟨_, _, h3⟩ := hsat; subst h3; simp at hk
    | succ cap =>
      obtain ⟨h0, hsp, hkc, hlen, rest, hrest, hb⟩ := hsat
      obtain ⟨qb, qo, qs⟩ := q
      simp only at h0 hsp hb; subst h0; subst hsp
      rw [adr, Option.getD_some, Addr.add_mk, Nat.zero_add] at hx
      have hsz : k + o < (xs ++ rest).toArray.size := by simp; omega
      obtain ⟨w', hr, hu⟩ := run_storeVar (P := P) (o := k + o) hs (by rw [hc]; rfl) hb (by omega) (by rw [hc]; simpa using hone)
      refine ⟨(), w', .inr ⟨by simp [execOp, he _ _ hx, he _ _ hy, Instr.storeAt, Instr.sureAddr, hr], rfl⟩, ?_⟩
      rw [hH.eq]
      refine mm.change hi (fun b hb' => .inl (by simpa [Ch.keys] using hb')) hu.os hu.tape hu.output (by rw [hu.size]; exact Nat.le_refl _) (fun b _ hbn => hu.rest b (by simpa [Ch.keys] using hbn)) ?_
      refine ⟨rfl, rfl, hkc, by simpa using hlen, rest, by simpa using hrest, ?_⟩
      show w'.heap[qb]? = _
      rw [hu.blk, hc]
      simp only [setR]
      congr 2
      rw [List.setIfInBounds_toArray, List.set_append_left _ _ (by omega)]
theorem c_rdw {w : World} {ad : Option Addr} {n sz : Nat} {xs cs : List Value} (h : Rd w ad n sz xs) {k : Nat} (hs : (xs.drop k).take cs.length = cs) : ∀ j v, cs[j]? = some v → w.cell? ((adr ad k).add j) = some v := by
  intro j v hj
  have hl := (List.getElem?_eq_some_iff.1 hj).1
  rw [← hs, List.getElem?_take, if_pos hl, List.getElem?_drop] at hj
  rw [adr_add]
  exact (h.2 _ _ hj).2
theorem Mem.restart0 {w0 w : World} {own : List Nat} {A : List Ch} (m : Mem w0 own A w) : Mem w (A.flatMap Ch.keys) A w := Mem.restart (B := []) (by rwa [List.append_nil])
/-- a call that is handed all -/
theorem e_callA [Wide F] {f : FuncId} {args : Array Operand} {tys : Array TypeId} {vs : List Value} {α : Sort _} {V : α → Value} {H' : α → List Ch} (hf : cfB P f = true) (ha : evs L args.toList = some vs)
    (hc : ∀ w, Mem w0 own H w → Calls P f vs.toArray w (Ret V (fun x => Mem w (H.flatMap Ch.keys) (H' x)))) :
    Eff F P ⟨d, .call ⟨.value (.func f), args, tys⟩, ty, pos, af, g⟩ L (Mem w0 own H) V (fun x => Mem w0 own (H' x)) :=
  e_call hf ha fun w m => (hc w m).mono fun e w' ⟨x, he, hm⟩ => ⟨x, he, by
    have := (show Mem w0 own (H ++ []) w by rwa [List.append_nil]).call hm fun b hb => by obtain ⟨c, h1, h2⟩ := List.mem_flatMap.1 hb; exact ⟨c, h1, h2⟩
    rwa [List.append_nil] at this⟩
/-- a call that is handed the first ones -/
theorem e_callP [Wide F] {f : FuncId} {args : Array Operand} {tys : Array TypeId} {vs : List Value} {α : Sort _} {V : α → Value} {H' : α → List Ch} (Hp Hr : List Ch) (hf : cfB P f = true) (ha : evs L args.toList = some vs)
    (hc : ∀ w, Mem w0 own (Hp ++ Hr) w → Calls P f vs.toArray w (Ret V (fun x => Mem w (Hp.flatMap Ch.keys) (H' x)))) :
    Eff F P ⟨d, .call ⟨.value (.func f), args, tys⟩, ty, pos, af, g⟩ L (Mem w0 own (Hp ++ Hr)) V (fun x => Mem w0 own (H' x ++ Hr)) :=
  e_call hf ha fun w m => (hc w m).mono fun e w' ⟨x, he, hm⟩ => ⟨x, he, m.call hm fun b hb => by obtain ⟨c, h1, h2⟩ := List.mem_flatMap.1 hb; exact ⟨c, h1, h2⟩⟩
end
end Go.Mc
