/- Slices, loops by range, copies. No condition. -/
import Derived.Test.YtjibkjoaamchoaaGreatDoorEEngA
import Derived.Laws.AppendOwn
import Derived.Laws.CopyRow
import Derived.RangeFuncLeaves
import Derived.RangeFuncRecord
import Derived.Laws.MakeOwn
import Derived.Laws.Tables
import Derived.Scope
set_option linter.all false
namespace Go.Mc

/-- what an element's type is: its cells, its bytes, its nought -/
def elB (P : Program) (e : TypeId) (sz bytes : Nat) (z : Value) : Prop := ∃ i, P.info? e = some i ∧ i.size = sz ∧ i.bytes = bytes ∧ i.zero = some z
theorem elB_of {P : Program} {e : TypeId} {sz bytes : Nat} {z : Value} (h1 : szB P e sz = true) (h2 : byB P e bytes = true) (h3 : znB P e z) : elB P e sz bytes z := by
  unfold szB at h1; unfold byB at h2; unfold znB at h3
  cases hi : P.info? e with
  | none => simp [hi] at h1
  | some i => rw [hi] at h1 h2 h3; exact ⟨i, hi, by simpa using h1, by simpa using h2, h3⟩

theorem run_first {P : Program} {w : World} {ad : Option Addr} {n sz : Nat} {xs : List Value} (h : Rd w ad n sz xs) (len cap : Nat) : (Builtin.firstCells sz n (.slice ad len cap)).run P w = .ok xs.toArray w := by
  cases ad with
  | none =>
    have : xs = [] := by
      cases xs with
      | nil => rfl
      | cons x xs => exact absurd (h.2 0 x rfl).1 (by simp)
    subst this; exact run_firstCells_none w sz n len cap
  | some a => exact run_firstCells_some w sz n a len cap xs h.1 fun j v hj => by simpa [adr] using (h.2 j v hj).2

theorem Rd.drew {w : World} {ad : Option Addr} {n sz : Nat} {xs : List Value} (h : Rd w ad n sz xs) : Rd w.drew ad n sz xs := h

theorem run_grow {P : Program} (w : World) (t ty e : TypeId) (i : TypeInfo) (z : Value) (ht : P.underlying t = some (.slice e)) (hi : P.info? e = some i) (hz : i.zero = some z)
    {b a : Option Addr} {sLen sCap n c : Nat} {olds news : List Value} (ho : Rd w b sLen i.size olds) (hn : Rd w a n i.size news)
    (hg : sCap < sLen + n) (h63 : ((sLen + n : Nat) : Int) ≤ 9223372036854775807) (hfit : Builtin.nextslicecap (sLen + n) sCap * i.bytes ≤ 281474976710656) :
    (Builtin.append_ #[t, t] ty #[.slice b sLen sCap, .slice a n c]).run P w =
      .ok (.slice (some ⟨w.heap.size, 0, none⟩) (sLen + n) (grownCap w (sLen + n) sCap e))
        (w.drew.alloc (.cells (olds.toArray ++ news.toArray ++ Builtin.zeroCells z.cells (grownCap w (sLen + n) sCap e - (sLen + n))) e)) := by
  have hn' : ¬ (sLen + n ≤ sCap) := by omega
  have h63' : ¬ (9223372036854775807 < ((sLen : Int) + (n : Int))) := by omega
  have h48' : ¬ (281474976710656 < Builtin.nextslicecap (sLen + n) sCap * i.bytes) := by omega
  have hf := run_first (P := P) hn.drew n c
  have hfo := run_first (P := P) ho.drew sLen sCap
  simp [Builtin.append_, run_underlying ht, sizeOf, typeInfo, zeroValue, hi, hz, Builtin.lenOf, hn', h63', h48', Question.forced, hf, hfo, newRow, grownCap]
  congr 2; rw [← Array.append_assoc]; simp

section
variable {F : Fence} {P : Program} {n : Nat} {L : List (Nat × Value)} {M : World → Prop} {w0 : World} {own : List Nat} {H : List Ch}
variable {d : Option Tmp} {ty : TypeId} {pos : String} {af : Array Edge} {g : Option (Nat × Bool)}

theorem sat_new {w : World} {n cap sz : Nat} {E : TypeId} {xs rest : List Value} (hl : xs.length = n * sz) (hc : n ≤ cap) (h0 : 0 < cap) (hr : cap * sz ≤ xs.length + rest.length) :
    (Ch.sl (some ⟨w.heap.size, 0, none⟩) n cap E sz xs).sat (World.at (w.alloc (.cells (xs ++ rest).toArray E))) := by
  obtain ⟨c, rfl⟩ := Nat.exists_eq_succ_of_ne_zero (Nat.pos_iff_ne_zero.1 h0)
  exact ⟨rfl, rfl, hc, hl, rest, hr, heap_alloc_new w _⟩

/-- append: what is owned grows -/
theorem e_append {t E : TypeId} {x y : Operand} {i k cap sz bytes m c : Nat} {z : Value} {ad a : Option Addr} {xs news : List Value} {tys : Array TypeId} {H' : Option Addr × Nat → List Ch}
    (ht : slB P t E = true) (hE : elB P E sz bytes z) (hzs : z.cells.size = sz) (hsz : 0 < sz) (htys : tys = #[t, t]) (hx : ev L x = some (.slice ad k cap)) (hy : ev L y = some (.slice a m c))
    (hi : H[i]? = some (.sl ad k cap E sz xs)) (hr : ∀ w, Mem w0 own H w → Rd w a m sz news) (hone : ∀ u ∈ news, u.oneCell' = true) (b1 : (k + m) * bytes ≤ 140737488355328) (b0 : k + m ≤ 140737488355328)
    (hH : ∀ r, SetAt H i (.sl r.1 (k + m) r.2 E sz (xs ++ news)) (H' r)) :
    Eff F P ⟨d, .call ⟨.builtin .append, #[x, y], tys⟩, ty, pos, af, g⟩ L (Mem w0 own H) (fun r : Option Addr × Nat => .slice r.1 (k + m) r.2) (fun r => Mem w0 own (H' r)) := eff_mk fun ρ w he m' => by
  obtain ⟨ti, hti, hs1, hs2, hz⟩ := hE
  subst hs1; subst hs2; subst htys
  have hn := hr w m'
  have ho := m'.rd_sl hi
  have hsat := m'.sat _ (List.mem_of_getElem? hi)
  have hrun : ∀ v w', (Builtin.append_ #[t, t] ty #[.slice ad k cap, .slice a m c]).run P w = .ok v w' → (execOp ρ ⟨d, .call ⟨.builtin .append, #[x, y], #[t, t]⟩, ty, pos, af, g⟩).run P w = .ok (.value v) w' := by
    intro v w' h
    simp [execOp, resolve, invoke, builtin, he _ _ hx, he _ _ hy, h]
  have hlen : (xs ++ news).length = (k + m) * ti.size := by rw [List.length_append, ho.1, hn.1, Nat.add_mul]
  by_cases hroom : k + m ≤ cap
  · -- there is room
    refine ⟨(ad, cap), ?_⟩
    cases cap with
    | zero =>
      have hk : k = 0 := by omega
      have hm : m = 0 := by omega
      subst hk; subst hm
      have hx0 : xs = [] := List.eq_nil_of_length_eq_zero (by simpa using ho.1)
      have hn0 : news = [] := List.eq_nil_of_length_eq_zero (by simpa using hn.1)
      subst hx0; subst hn0
      refine ⟨w, .inl (hrun _ _ ?_), ?_⟩
      · have hf := run_first (P := P) hn 0 c
        cases ad <;> simp [Builtin.append_, run_underlying (und_sl ht), sizeOf, typeInfo, hti, Builtin.lenOf, hf, Instr.storeAt]; try rfl
      · rw [(hH (ad, 0)).eq]
        have : H.set i (.sl ad (0 + 0) 0 E ti.size ([] ++ [])) = H := by
          obtain ⟨h1, h2⟩ := List.getElem?_eq_some_iff.1 hi
          apply List.ext_getElem? ; intro j
          rw [List.getElem?_set]
          by_cases hj : i = j
          · subst hj; simp [h1]; exact h2.symm
          · simp [hj]
        simp only; rw [this]; exact m'
    | succ cap =>
      cases ad with
      | none => obtain ⟨_, h2, _⟩ := hsat; cases h2
      | some q =>
        obtain ⟨h0, hsp, hkc, _, rest, hrest, hb⟩ := hsat
        obtain ⟨qb, qo, qs⟩ := q
        simp only at h0 hsp; subst h0; subst hsp
        have hl2 : k * ti.size + news.length ≤ (xs ++ rest).toArray.size := by
          have := Nat.mul_le_mul_right ti.size hroom
          rw [Nat.add_mul] at this
          simp only [List.size_toArray, List.length_append, hn.1]; omega
        obtain ⟨w', hst, hu⟩ := run_storeCells (P := P) (b := qb) (E := E) news (k * ti.size) 0 (xs ++ rest).toArray w hb (by simpa using hl2) hone
        refine ⟨w', .inl (hrun _ _ ?_), ?_⟩
        · have hf := run_first (P := P) hn m c
          simp [Builtin.append_, run_underlying (und_sl ht), sizeOf, typeInfo, hti, Builtin.lenOf, hroom, hf, hst]
        · rw [(hH _).eq]
          refine m'.change hi (fun b hb' => .inl ?_) hu.os hu.tape hu.output (by rw [hu.size]; exact Nat.le_refl _) (fun b _ hbn => hu.rest b (by simpa [Ch.keys] using hbn)) ?_
          · simpa [Ch.keys] using hb'
          · refine ⟨rfl, rfl, hroom, hlen, rest.drop news.length, ?_, ?_⟩
            · simp only [List.length_append, List.length_drop]; omega
            · show w'.heap[qb]? = _
              rw [hu.blk]
              congr 2
              apply Array.ext_getElem?
              intro j
              rw [setR_get _ _ _ _ (by simpa using hl2)]
              have hx1 := ho.1
              simp only [Nat.add_zero, List.getElem?_toArray]
              by_cases h1 : j < xs.length
              · rw [if_neg (by omega), List.getElem?_append_left h1, List.append_assoc, List.getElem?_append_left h1]
              · by_cases h2 : j < xs.length + news.length
                · rw [if_pos (by omega), List.append_assoc, List.getElem?_append_right (by omega), List.getElem?_append_left (by omega), hx1]
                · rw [if_neg (by omega), List.getElem?_append_right (by omega), List.getElem?_append_right (by simp; omega), List.getElem?_drop]
                  congr 1; simp; omega
  · have hge := grownCap_ge w (k + m) cap E
    refine ⟨(some ⟨w.heap.size, 0, none⟩, grownCap w (k + m) cap E), _, .inl (hrun _ _ (run_grow w t ty E ti z (und_sl ht) hti hz ho hn (by omega) (by omega) (growslice_fits (by omega) b1))), ?_⟩
    rw [(hH _).eq]
    have hpos : 0 < grownCap w (k + m) cap E := by omega
    have hs := sat_new (w := w.drew) (n := k + m) (cap := grownCap w (k + m) cap E) (sz := ti.size) (E := E) (xs := xs ++ news) (rest := (Builtin.zeroCells z.cells (grownCap w (k + m) cap E - (k + m))).toList) hlen hge hpos
      (by rw [hlen, Array.length_toList, size_zeroCells, hzs, ← Nat.add_mul]; exact Nat.mul_le_mul_right _ (by omega))
    have hcell : (xs.toArray ++ news.toArray ++ Builtin.zeroCells z.cells (grownCap w (k + m) cap E - (k + m))) = ((xs ++ news) ++ (Builtin.zeroCells z.cells (grownCap w (k + m) cap E - (k + m))).toList).toArray := by
      simp
    rw [hcell]
    refine m'.change hi (fun b hb' => .inr ?_) rfl rfl rfl (by simp) (fun b hb _ => Go.RowKit.Below.heap_alloc _ _ _ hb) hs
    obtain ⟨cc, hcc⟩ := Nat.exists_eq_succ_of_ne_zero (Nat.pos_iff_ne_zero.1 hpos)
    simp only [hcc, Ch.keys, List.mem_singleton] at hb'
    subst hb'; exact Nat.le_refl _

/-- the bounds of a slice expression -/
def obnd (L : List (Nat × Value)) (o : Option Operand) (d r : Nat) : Prop :=
  match o with
  | none => r = d
  | some x => ∃ k i, ev L x = some (.int k i) ∧ i = (r : Int)

theorem run_bound {w : World} {k : IntKind} {i : Int} {r y : Nat} {code : BoundsCode} (h : i = (r : Int)) (hr : r ≤ y) : (Instr.sliceBound (.int k i) y code).run P w = .ok r w := by
  subst h
  simp [Instr.sliceBound, asIntOf, hr]

theorem run_bounds {ρ : Operand → Value} {w : World} {isS : Bool} {len cap : Nat} {lo hi mx : Option Operand} {l h m : Nat} (he : Ev L ρ) (hm : obnd L mx cap m) (hh : obnd L hi len h) (hl : obnd L lo 0 l) (hmx : mx.isSome = true → hi.isSome = true)
    (b1 : m ≤ cap) (b2 : h ≤ m) (b3 : l ≤ h) : (Instr.sliceBounds isS len cap (lo.map ρ) (hi.map ρ) (mx.map ρ)).run P w = .ok (l, h, m) w := by
  have key : ∀ (x : Operand) (r y : Nat) (code : BoundsCode), (∃ k i, ev L x = some (.int k i) ∧ i = (r : Int)) → r ≤ y → (Instr.sliceBound (ρ x) y code).run P w = .ok r w := by
    rintro x r y code ⟨k, i, h1, h2⟩ h3
    rw [he _ _ h1]; exact run_bound h2 h3
  cases mx with
  | none =>
    have hm' : m = cap := hm
    subst hm'
    cases hi with
    | none =>
      have hh' : h = len := hh
      subst hh'
      cases lo with
      | none => have hl' : l = 0 := hl; subst hl'; simp [Instr.sliceBounds]
      | some x => simp [Instr.sliceBounds, key x l h _ hl b3]
    | some y =>
      cases lo with
      | none => have hl' : l = 0 := hl; subst hl'; simp [Instr.sliceBounds, key y h m _ hh b2]
      | some x => simp [Instr.sliceBounds, key y h m _ hh b2, key x l h _ hl b3]
  | some u =>
    cases hi with
    | none => exact absurd (hmx rfl) (by simp)
    | some y =>
      cases lo with
      | none => have hl' : l = 0 := hl; subst hl'; simp [Instr.sliceBounds, key u m cap _ hm b1, key y h m _ hh b2]
      | some x => simp [Instr.sliceBounds, key u m cap _ hm b1, key y h m _ hh b2, key x l h _ hl b3]

/-- a slice of a slice -/
theorem y_slice_sl {t e : TypeId} {x : Operand} {lo hi mx : Option Operand} {ad : Option Addr} {len cap sz : Nat} (ht : slB P t e = true) (hs : szB P e sz = true) (hx : ev L x = some (.slice ad len cap)) (m h l : Nat) (hm : obnd L mx cap m) (hh : obnd L hi len h) (hl : obnd L lo 0 l)
    (hmx : mx.isSome = true → hi.isSome = true) (b1 : m ≤ cap) (b2 : h ≤ m) (b3 : l ≤ h) : Yld P ⟨d, .slice t x lo hi mx, ty, pos, af, g⟩ L M (.slice (sub ad (m - l) (l * sz)) (h - l) (m - l)) := .mk fun ρ w he _ => by
  have hb := run_bounds (P := P) (w := w) (isS := true) he hm hh hl hmx b1 b2 b3
  simp [execOp, Instr.sliceAt, Instr.slice, run_under (und_sl ht), he _ _ hx, hb, run_sizeOf hs, sub]
  by_cases h0 : m = l
  · subst h0; simp
  · rw [if_neg h0, if_neg (by omega)]
/-- a slice of an array behind its address -/
theorem y_slice_ar {t e : TypeId} {x : Operand} {lo hi mx : Option Operand} {b len sz : Nat} (ht : arB P t len e = true) (hs : szB P e sz = true) (hx : ev L x = some (.pointer (some ⟨b, 0, none⟩))) (m h l : Nat) (hm : obnd L mx len m) (hh : obnd L hi len h) (hl : obnd L lo 0 l)
    (hmx : mx.isSome = true → hi.isSome = true) (b1 : m ≤ len) (b2 : h ≤ m) (b3 : l ≤ h) : Yld P ⟨d, .slice t x lo hi mx, ty, pos, af, g⟩ L M (.slice (sub (some ⟨b, 0, none⟩) (m - l) (l * sz)) (h - l) (m - l)) := .mk fun ρ w he _ => by
  have hb := run_bounds (P := P) (w := w) (isS := false) he hm hh hl hmx b1 b2 b3
  simp [execOp, Instr.sliceAt, run_under (und_ar ht), he _ _ hx, hb, run_sizeOf hs, sub, Instr.sureAddr]
  by_cases h0 : m = l
  · subst h0; simp
  · rw [if_neg h0, if_neg (by omega)]
/-- a cell of whatever reads so -/
theorem c_of {w0 : World} {own : List Nat} {H : List Ch} {ad : Option Addr} {m sz k : Nat} {xs : List Value} {v : Value} (h : ∀ w, Mem w0 own H w → Rd w ad m sz xs) (hk : xs[k]? = some v) : ∀ w, Mem w0 own H w → w.cell? (adr ad k) = some v :=
  fun w m => ((h w m).2 k v hk).2
end
end Go.Mc

namespace Go.Mc
section
variable {F : Fence} {P : Program} {Q : Exit → Act → World → Prop} {n : Nat} {D : List Deferred} {L : List (Nat × Value)} {M : World → Prop} {w0 : World} {own : List Nat} {H : List Ch}

/-- an object that is no cells is set -/
theorem upd_putObj {w : World} {b : Nat} {o o' : Obj} (h : w.heap[b]? = some o) : Upd w (w.putObj b o') b o' := by
  have hlt := (Array.getElem?_eq_some_iff.1 h).1
  refine ⟨rfl, rfl, rfl, by simp [World.putObj], by simp [World.putObj, hlt], fun k hk => ?_⟩
  simp only [World.putObj]
  rw [Array.getElem?_setIfInBounds_ne (fun e => hk e.symm)]

theorem roundIn_any [Wide F] {l : Nat} {f : FuncId} {tmps : Array Value} {assign body : Code} {w : World} {R : Ending → World → Prop} (h : RoundIn Fence.wide 0 P l f tmps assign body w R) : RoundIn F 0 P l f tmps assign body w R := by
  refine ⟨Wide.fn f, fun c cs _ => ?_⟩
  obtain ⟨e, w', r, s⟩ := h.2 c cs (room_wide _)
  refine ⟨e, w', r, ?_⟩
  cases e with
  | returned v => exact StepsIn.mono (fun m _ => fenced_all P m) s
  | panicked c => exact StepsIn.mono (fun m _ => fenced_all P m) s
  | outgrown => exact s

def setParams (ps : Array Tmp) (args : List Value) (tm : Array Value) : Array Value := (ps.zip args.toArray).foldl (fun tmps (t, a) => tmps.setIfInBounds t a) tm

/-- a call of yield comes to this -/
def Yields (P : Program) (l : Nat) (args : List Value) (w : World) (R : Ending → World → Prop) : Prop :=
  ∃ r : Loop, w.heap[l]? = some (.loop r) ∧ args.length = r.params.size ∧ RoundIn Fence.wide 0 P l r.fn (setParams r.params args r.tmps) r.assign r.body w R

theorem Yields.mono {l : Nat} {args : List Value} {w : World} {R R' : Ending → World → Prop} (h : Yields P l args w R) (hr : ∀ e w', R e w' → R' e w') : Yields P l args w R' :=
  let ⟨r, h1, h2, h3⟩ := h; ⟨r, h1, h2, RoundIn.mono h3 hr⟩

section
variable {d : Option Tmp} {ty : TypeId} {pos : String} {af : Array Edge} {g : Option (Nat × Bool)}
theorem e_yield [Wide F] {x : Operand} {l : Nat} {args : Array Operand} {tys : Array TypeId} {vs : List Value} {α : Sort _} {V : α → Value} {M' : α → World → Prop} (hx : ev L x = some (.func (.yield l) #[] #[])) (ha : evs L args.toList = some vs) (hY : ∀ w, M w → Yields P l vs w (Ret V M')) :
    Eff F P ⟨d, .call ⟨.value x, args, tys⟩, ty, pos, af, g⟩ L M V M' := .mk fun ρ w he hM => by
  have h1 : args.map ρ = vs.toArray := by have := he.evs ha; rw [← this, ← List.map_toArray]
  obtain ⟨r, hr, hn, hround⟩ := hY w hM
  have : (execOp ρ ⟨d, .call ⟨.value x, args, tys⟩, ty, pos, af, g⟩).run P w = .ok (.round l r.fn (setParams r.params vs r.tmps) r.assign r.body) w := by
    simp [execOp, resolve, h1, he _ _ hx, Deferred.ofValue, invoke, Instr.yield, Instr.getLoop, getObj, Sem.run, hr, Result.andThen, hn, setParams]
  rw [this]
  exact roundIn_any hround
end

theorem wl_yield_dummy : True := trivial

/-- the fence of a round -/
abbrev rw_ (l : Nat) : Fence := Fence.wide.inRound l

/-- behind the assignment to the loop's variables -/
def BeginQ (P : Program) (l : Nat) (body : Code) (R : Ending → World → Prop) : Exit → Act → World → Prop :=
  Exit.then (fun a₁ w₁ => ∃ w₂, (Instr.beginRound l).run P w₁ = .ok () w₂ ∧ body.wpIn (rw_ l) 0 P (roundPost P l R) a₁ w₂) (fun _ _ _ => False)

theorem run_getLoop {l : Nat} {r : Loop} {w : World} (h : w.heap[l]? = some (.loop r)) : (Instr.getLoop l).run P w = .ok r w := by
  simp [Instr.getLoop, getObj, Sem.run, h, Result.andThen]
theorem run_setObj {l : Nat} {o o' : Obj} {w : World} (h : w.heap[l]? = some o) (hc : ∀ c e f, o ≠ .cells c e f) : (setObj l o').run P w = .ok () (w.putObj l o') := by
  simp only [setObj, Sem.run, h]
  cases o <;> first | rfl | exact absurd rfl (hc _ _ _)

theorem aq_begin {l i : Nat} {r : Loop} {body : Code} {R : Ending → World → Prop} {H' : List Ch} (hi : H[i]? = some (.blk l (.loop r))) (hst : r.state = .ready) (hH : SetAt H i (.blk l (.loop { r with state := .busy })) H')
    (h : WC (rw_ l) P (roundPost P l R) n [] body L (Mem w0 own H')) : AQ (BeginQ P l body R) .normal n [] L (Mem w0 own H) := .mk fun a w s => by
  have hb := s.mem.blk hi
  refine ⟨w.putObj l (.loop { r with state := .busy }), ?_, h.out a _ ⟨s.agr, s.dfr, hH.eq ▸ s.mem.upd hi (upd_putObj hb)⟩⟩
  simp only [Instr.beginRound, Sem.run_bind, run_getLoop hb, Result.andThen_ok, run_setObj hb (by simp), hst, Sem.run_pure]
theorem run_endRound {l : Nat} {r : Loop} {w : World} {j : Option Code} (h : w.heap[l]? = some (.loop r)) : (Instr.endRound l j).run P w = .ok (.bool j.isNone) (w.putObj l (.loop { r with state := if j.isNone then .ready else .done, pending := j })) := by
  simp only [Instr.endRound, Sem.run_bind, run_getLoop h, Result.andThen_ok, run_setObj h (by simp), Sem.run_pure]
theorem aq_round_next {l i : Nat} {r : Loop} {R : Ending → World → Prop} {H' : List Ch} (hi : H[i]? = some (.blk l (.loop r))) (hH : SetAt H i (.blk l (.loop { r with state := .ready, pending := none })) H')
    (hR : ∀ w, Mem w0 own H' w → R (.returned (.bool true)) w) : AQ (roundPost P l R) .normal n D L (Mem w0 own H) := .mk fun a w s => by
  have hb := s.mem.blk hi
  exact ⟨_, _, run_endRound hb, hR _ (hH.eq ▸ s.mem.upd hi (upd_putObj hb))⟩
theorem aq_round_exit {l i id : Nat} {r : Loop} {R : Ending → World → Prop} {H' : List Ch} (hi : H[i]? = some (.blk l (.loop r))) (hH : SetAt H i (.blk l (.loop { r with state := .done, pending := some (.exit id) })) H')
    (hR : ∀ w, Mem w0 own H' w → R (.returned (.bool false)) w) : AQ (roundPost P l R) (.exit id) n D L (Mem w0 own H) := .mk fun a w s => by
  have hb := s.mem.blk hi
  exact ⟨_, _, run_endRound hb, hR _ (hH.eq ▸ s.mem.upd hi (upd_putObj hb))⟩
theorem aq_round_ret {l i : Nat} {r : Loop} {R : Ending → World → Prop} {H' : List Ch} (hi : H[i]? = some (.blk l (.loop r))) (hH : SetAt H i (.blk l (.loop { r with state := .done, pending := some .ret })) H')
    (hR : ∀ w, Mem w0 own H' w → R (.returned (.bool false)) w) : AQ (roundPost P l R) .ret n D L (Mem w0 own H) := .mk fun a w s => by
  have hb := s.mem.blk hi
  exact ⟨_, _, run_endRound hb, hR _ (hH.eq ▸ s.mem.upd hi (upd_putObj hb))⟩

/-- the temporaries that a loop's record keeps -/
def Kept (n : Nat) (L : List (Nat × Value)) (tm : Array Value) : Prop := Agr n L ⟨tm, []⟩
theorem Kept.set1 {tm : Array Value} (h : Kept n L tm) {p : Tmp} (hp : Nat.blt p n = true) (v : Value) : Agr n ((p, v) :: L) { tmps := setParams #[p] [v] tm, defers := [] } := by
  have := h.putL (some p) hp v
  simpa [setParams, putL, Act.put] using this
theorem Kept.set0 {tm : Array Value} (h : Kept n L tm) : Agr n L { tmps := setParams #[] [] tm, defers := [] } := by simpa [setParams, Kept] using h

/-- a round, out of its code -/
theorem yields_of {l i : Nat} {r : Loop} {vs : List Value} {w : World} {R : Ending → World → Prop} (m : Mem w0 own H w) (hi : H[i]? = some (.blk l (.loop r))) (hn : vs.length = r.params.size) (hag : Agr n L { tmps := setParams r.params vs r.tmps, defers := [] })
    (h : WC (rw_ l) P (BeginQ P l r.body R) n [] r.assign L (Mem w0 own H)) : Yields P l vs w R :=
  ⟨r, m.blk hi, hn, roundIn_of_wpIn (F := Fence.wide) trivial (h.out _ _ ⟨hag, rfl, m⟩)⟩

abbrev markOf (b : Nat) : Deferred := { target := .collected b, args := #[] }
abbrev loopRec (fn : FuncId) (tm : Array Value) (ps : Array Tmp) (assign body : Code) (b : Nat) (s : LoopState) (p : Option Code) : Obj := .loop { state := s, pending := p, fn, tmps := tm, params := ps, assign, body, defers := b }

/-- for .. := range g { .. }, outside of a round -/
theorem wc_range {g : Operand} {ps : Array Tmp} {assign body : Code} {gf : FuncId} {first cap : Array Value} {α : Sort _} (V : α → Value) (H2 : Nat → Nat → Array Value → FuncId → α → List Ch) (J : α → Option Code) (idx : α → Nat)
    (hg : ev L g = some (.func (.func gf) first cap)) (hcf : cfB P gf = true)
    (hcall : ∀ b l tm fn w, Kept n L tm → Mem w0 own (.blk l (loopRec fn tm ps assign body b .ready none) :: .blk b (.deferred (some [])) :: H) w → Calls P gf (first ++ #[.func (.yield l) #[] #[]] ++ cap) w (Ret V (fun x => Mem w0 own (H2 b l tm fn x))))
    (hend : ∀ b l tm fn x, ∃ s, s ≠ .busy ∧ (H2 b l tm fn x)[idx x]? = some (.blk l (loopRec fn tm ps assign body b s (J x))))
    (k : ∀ b l tm fn x, match J x with
      | none => AQ Q .normal n (markOf b :: D) L (Mem w0 own ((H2 b l tm fn x).set (idx x) (.blk l (loopRec fn tm ps assign body b .exhausted (J x)))))
      | some c => WC Fence.wide P Q n (markOf b :: D) c L (Mem w0 own ((H2 b l tm fn x).set (idx x) (.blk l (loopRec fn tm ps assign body b .exhausted (J x)))))) :
    WC Fence.wide P Q n D (.rangeFunc g ps assign body) L (Mem w0 own H) := by
  refine .mk fun a w s => ?_
  refine wpIn_rangeFunc fun fn _ => ?_
  have hga : a.eval g = .func (.func gf) first cap := s.agr.ev _ _ hg
  have m1 := s.mem.alloc (.deferred (some []))
  have m2 := m1.alloc (loopRec fn a.tmps ps assign body w.heap.size .ready none)
  have hsz : (w.alloc (.deferred (some []))).heap.size = w.heap.size + 1 := by simp
  refine ⟨w.heap.size + 1, [markOf w.heap.size], (w.alloc (.deferred (some []))).alloc (loopRec fn a.tmps ps assign body w.heap.size .ready none), ⟨.fn (.func gf) cap, first ++ #[.func (.yield (w.heap.size + 1)) #[] #[]]⟩, (w.alloc (.deferred (some []))).alloc (loopRec fn a.tmps ps assign body w.heap.size .ready none), gf, first ++ #[.func (.yield (w.heap.size + 1)) #[] #[]] ++ cap, (w.alloc (.deferred (some []))).alloc (loopRec fn a.tmps ps assign body w.heap.size .ready none), ?_, ?_, fun _ _ => trivial, ?_, fun h => (by cases h), callsIn_of_calls ?_⟩
  · simp [Instr.enterLoop, Fence.wide]
  · have : Act.eval a (.const (.func (.yield (w.heap.size + 1)) #[] #[])) = .func (.yield (w.heap.size + 1)) #[] #[] := rfl
    simp [resolve, hga, this, Deferred.ofValue]
  · exact run_callFunc hcf
  · rw [hsz] at m2
    refine (hcall w.heap.size (w.heap.size + 1) a.tmps fn _ ⟨s.agr.size, s.agr.at_⟩ m2).mono fun e w3 ⟨x, he, hm⟩ => ?_
    subst he
    obtain ⟨st, hst, hi⟩ := hend w.heap.size (w.heap.size + 1) a.tmps fn x
    have hb := hm.blk hi
    have hm4 := hm.upd hi (upd_putObj (o' := loopRec fn a.tmps ps assign body w.heap.size .exhausted (J x)) hb)
    refine ⟨J x, w3.putObj (w.heap.size + 1) (loopRec fn a.tmps ps assign body w.heap.size .exhausted (J x)), ?_, ?_⟩
    · have hne : (st == LoopState.busy) = false := by cases st <;> first | rfl | exact absurd rfl hst
      simp only [Instr.endLoop, Sem.run_bind, run_getLoop hb, Result.andThen_ok, hne, Bool.false_eq_true, if_false, run_setObj hb (by simp), Sem.run_pure]
    · have hk := k w.heap.size (w.heap.size + 1) a.tmps fn x
      have st' : St n L (markOf w.heap.size :: D) (Mem w0 own ((H2 w.heap.size (w.heap.size + 1) a.tmps fn x).set (idx x) (.blk (w.heap.size + 1) (loopRec fn a.tmps ps assign body w.heap.size .exhausted (J x))))) { a with defers := [markOf w.heap.size] ++ a.defers } (w3.putObj (w.heap.size + 1) (loopRec fn a.tmps ps assign body w.heap.size .exhausted (J x))) :=
        ⟨⟨s.agr.size, s.agr.at_⟩, by simp [s.dfr], hm4⟩
      cases hj : J x with
      | none => rw [hj] at hk st'; simp only at hk; exact hk.out _ _ st'
      | some c => rw [hj] at hk st'; simp only at hk; exact hk.out _ _ st'

/-! a function whose body holds such loops -/
abbrev postM (P : Program) (fn : Func) (R : Ending → World → Prop) : Exit → Act → World → Prop := bodyPostM Fence.wide 0 P fn R
theorem calls_ofM {f : FuncId} {fn : Func} {c : Code} {args : Array Value} {w : World} {R : Ending → World → Prop} {m : Nat}
    (hf : P.funcs[f]? = some fn) (hb : fn.body = some c) (hm : fn.ntmps = m) (hL : ArgsAt args L) (hle : args.size ≤ m) (hM : M w)
    (h : WC Fence.wide P (postM P fn R) m [] c L M) : Calls P f args w R := by
  refine (callsIn_wide (n := 0)).1 (callsIn_of_wp_marks hf hb trivial (h.out _ _ ⟨?_, rfl, hM⟩) rfl)
  subst hm
  exact agr_enter hL hle

theorem aq_returnM0 {fn : Func} {R : Ending → World → Prop} {rs : List ResultVar} {vs : List Value} {e : Exit} (he : e = .ret ∨ e = .normal) (hr : fn.results = rs.toArray) (h : ResM P L M rs vs) (hR : ∀ w, M w → R (.returned (tup vs)) w) :
    AQ (postM P fn R) e n [] L M := .mk fun a w s => by
  have key : LeavesInM Fence.wide 0 P fn a.tmps R a.defers .returning w := by
    rw [s.dfr]; exact ⟨_, run_results hr s.agr s.mem h, hR w s.mem⟩
  rcases he with rfl | rfl <;> exact key
theorem aq_returnM1 {fn : Func} {R : Ending → World → Prop} {rs : List ResultVar} {vs : List Value} {e : Exit} {b i : Nat} {H' : List Ch} (he : e = .ret ∨ e = .normal) (hi : H[i]? = some (.blk b (.deferred (some [])))) (hH : SetAt H i (.blk b (.deferred none)) H') (hr : fn.results = rs.toArray) (h : ResM P L (Mem w0 own H') rs vs) (hR : ∀ w, Mem w0 own H' w → R (.returned (tup vs)) w) :
    AQ (postM P fn R) e n [markOf b] L (Mem w0 own H) := .mk fun a w s => by
  have hb := s.mem.blk hi
  have m' : Mem w0 own H' (w.putObj b (.deferred none)) := hH.eq ▸ s.mem.upd hi (upd_putObj hb)
  have key : LeavesInM Fence.wide 0 P fn a.tmps R a.defers .returning w := by
    rw [s.dfr]
    exact ⟨by simp, .inl ⟨b, _, rfl, run_takeDeferred hb, _, run_results hr s.agr m' h, hR _ m'⟩⟩
  rcases he with rfl | rfl <;> exact key

section
variable {d : Option Tmp} {ty : TypeId} {pos : String} {af : Array Edge} {g : Option (Nat × Bool)}
/-- a call that is handed the chunks Hp -/
theorem e_callM [Wide F] {f : FuncId} {args : Array Operand} {tys : Array TypeId} {vs : List Value} {α : Sort _} {V : α → Value} {H' : α → List Ch} (is : List Nat) (Hp Hr : List Ch) (hp : Picks is H (Hp ++ Hr)) (hn : is.Nodup) (hf : cfB P f = true) (ha : evs L args.toList = some vs) (own' : List Nat) (ho : own' = Hp.flatMap Ch.keys)
    (hc : ∀ w, Mem w0 own (Hp ++ Hr) w → Calls P f vs.toArray w (Ret V (fun x => Mem w own' (H' x)))) :
    Eff F P ⟨d, .call ⟨.value (.func f), args, tys⟩, ty, pos, af, g⟩ L (Mem w0 own H) V (fun x => Mem w0 own (H' x ++ Hr)) :=
  e_call hf ha fun w m => (hc w (m.pick hp hn)).mono fun e w' ⟨x, he, hm⟩ => ⟨x, he, (m.pick hp hn).call hm fun b hb => by subst ho; obtain ⟨c, h1, h2⟩ := List.mem_flatMap.1 hb; exact ⟨c, h1, h2⟩⟩
theorem e_callvM [Wide F] {x : Operand} {f : FuncId} {first cap : Array Value} {args : Array Operand} {tys : Array TypeId} {vs : List Value} {α : Sort _} {V : α → Value} {H' : α → List Ch} (hx : ev L x = some (.func (.func f) first cap)) (is : List Nat) (Hp Hr : List Ch) (hp : Picks is H (Hp ++ Hr)) (hn : is.Nodup) (hf : cfB P f = true) (ha : evs L args.toList = some vs) (own' : List Nat) (ho : own' = Hp.flatMap Ch.keys)
    (hc : ∀ w, Mem w0 own (Hp ++ Hr) w → Calls P f (first ++ vs.toArray ++ cap) w (Ret V (fun x => Mem w own' (H' x)))) :
    Eff F P ⟨d, .call ⟨.value x, args, tys⟩, ty, pos, af, g⟩ L (Mem w0 own H) V (fun x => Mem w0 own (H' x ++ Hr)) :=
  e_callv hx hf ha fun w m => (hc w (m.pick hp hn)).mono fun e w' ⟨x, he, hm⟩ => ⟨x, he, (m.pick hp hn).call hm fun b hb => by subst ho; obtain ⟨c, h1, h2⟩ := List.mem_flatMap.1 hb; exact ⟨c, h1, h2⟩⟩
theorem e_call0 [Wide F] {f : FuncId} {args : Array Operand} {tys : Array TypeId} {vs : List Value} {α : Sort _} {V : α → Value} {H' : α → List Ch} (hf : cfB P f = true) (ha : evs L args.toList = some vs)
    (hc : ∀ w, Mem w0 own H w → Calls P f vs.toArray w (Ret V (fun x => Mem w [] (H' x)))) :
    Eff F P ⟨d, .call ⟨.value (.func f), args, tys⟩, ty, pos, af, g⟩ L (Mem w0 own H) V (fun x => Mem w0 own (H' x ++ H)) :=
  e_call hf ha fun w m => (hc w m).mono fun e w' ⟨x, he, hm⟩ => ⟨x, he, m.call0 hm⟩
theorem e_callv0 [Wide F] {x : Operand} {f : FuncId} {first cap : Array Value} {args : Array Operand} {tys : Array TypeId} {vs : List Value} {α : Sort _} {V : α → Value} {H' : α → List Ch} (hx : ev L x = some (.func (.func f) first cap)) (hf : cfB P f = true) (ha : evs L args.toList = some vs)
    (hc : ∀ w, Mem w0 own H w → Calls P f (first ++ vs.toArray ++ cap) w (Ret V (fun x => Mem w [] (H' x)))) :
    Eff F P ⟨d, .call ⟨.value x, args, tys⟩, ty, pos, af, g⟩ L (Mem w0 own H) V (fun x => Mem w0 own (H' x ++ H)) :=
  e_callv hx hf ha fun w m => (hc w m).mono fun e w' ⟨x, he, hm⟩ => ⟨x, he, m.call0 hm⟩
end
end
end Go.Mc

namespace Go.Mc
/-- as 'fill', by rows of cells -/
def fillR (place : Nat → Option (Nat × Nat)) (cells : Array Value) : List (Nat × Value) → Option (Array Value)
  | [] => some cells
  | (i, v) :: rest =>
    match place i with
    | none => none
    | some (off, size) => if v.cells.size ≠ size || off + v.cells.size > cells.size then none else fillR place (setR cells off v.cells.toList) rest

theorem foldl_setR (vs : List Value) : ∀ (cs : Array Value) (off k : Nat), (vs.zipIdx k).foldl (fun cs (c, j) => cs.setIfInBounds (off + j) c) cs = setR cs (off + k) vs := by
  induction vs with
  | nil => intro cs off k; rfl
  | cons v vs ih => intro cs off k; simp only [List.zipIdx_cons, List.foldl_cons, setR]; rw [ih]; rfl
theorem fill_fillR (place : Nat → Option (Nat × Nat)) : ∀ (l : List (Nat × Value)) (cs : Array Value), Instr.fill place cs l = fillR place cs l := by
  intro l
  induction l with
  | nil => intro cs; rfl
  | cons p l ih =>
    obtain ⟨i, v⟩ := p
    intro cs
    simp only [Instr.fill, fillR]
    cases place i with
    | none => rfl
    | some os =>
      obtain ⟨off, size⟩ := os
      simp only
      split
      · rfl
      · rw [ih]
        congr 1
        rw [← Array.foldl_toList, Array.toList_zipIdx]
        exact foldl_setR v.cells.toList cs off 0

/-- a row of elements, one behind the other -/
theorem fillR_row {sz : Nat} : ∀ (vs : List Value) (cs : Array Value) (k : Nat), (∀ v ∈ vs, v.cells.size = sz) → (k + vs.length) * sz ≤ cs.size →
    fillR (fun i => some (i * sz, sz)) cs ((vs.zipIdx k).map fun p => (p.2, p.1)) = some (setR cs (k * sz) (vs.flatMap fun v => v.cells.toList)) := by
  intro vs
  induction vs with
  | nil => intro cs k _ _; rfl
  | cons v vs ih =>
    intro cs k hv hl
    have h1 := hv v (by simp)
    simp only [List.length_cons, Nat.add_mul, Nat.one_mul] at hl
    simp only [List.zipIdx_cons, List.map_cons, fillR]
    rw [if_neg (by rw [h1]; simp; omega), ih _ (k + 1) (fun u hu => hv u (by simp [hu])) (by simp [Nat.add_mul]; omega)]
    congr 1
    have app : ∀ (xs ys : List Value) (cs : Array Value) (o : Nat), setR (setR cs o xs) (o + xs.length) ys = setR cs o (xs ++ ys) := by
      intro xs
      induction xs with
      | nil => intro ys cs o; rfl
      | cons x xs ih => intro ys cs o; simp only [setR, List.length_cons, List.cons_append]; rw [← ih, Nat.add_right_comm, Nat.add_assoc]
    have hlen : v.cells.toList.length = sz := by simpa using h1
    rw [List.flatMap_cons, ← app, hlen, Nat.add_mul, Nat.one_mul]

section
variable {F : Fence} {P : Program} {n : Nat} {L : List (Nat × Value)} {M : World → Prop} {w0 : World} {own : List Nat} {H : List Ch}
variable {d : Option Tmp} {ty : TypeId} {pos : String} {af : Array Edge} {g : Option (Nat × Bool)}

theorem evs_map {ρ : Operand → Value} (he : Ev L ρ) : ∀ {ps : List (Nat × Operand)} {vs : List (Nat × Value)}, ps.map (fun p => (p.1, ev L p.2)) = vs.map (fun p => (p.1, some p.2)) → ps.map (fun p => (p.1, ρ p.2)) = vs
  | [], [], _ => rfl
  | [], _ :: _, h => by cases h
  | _ :: _, [], h => by cases h
  | p :: ps, v :: vs, h => by
    simp only [List.map_cons, List.cons.injEq, Prod.mk.injEq] at h
    simp only [List.map_cons, List.cons.injEq]
    exact ⟨Prod.ext h.1.1 (he _ _ h.1.2), evs_map he h.2⟩

theorem run_buildSlice {ρ : Operand → Value} (he : Ev L ρ) {w : World} {t E : TypeId} {len sz bytes : Nat} {z : Value} {parts : Array (Nat × Operand)} (vs : List Value) (ht : slB P t E = true) (hE : elB P E sz bytes z)
    (hp : parts.toList.map (fun p => (p.1, ev L p.2)) = (vs.zipIdx.map fun p => (p.2, p.1)).map (fun p => (p.1, some p.2))) (hlen : len = vs.length) (hcs : ∀ v ∈ vs, v.cells.size = sz) (hsm : len * sz ≤ 16777216) (xs : List Value) (hxs : (vs.flatMap fun v => v.cells.toList) = xs) :
    xs.length = len * sz ∧ (execOp ρ ⟨d, .buildSlice t len parts, ty, pos, af, g⟩).run P w = .ok (.value (.slice (some ⟨w.heap.size, 0, none⟩) len len)) (w.alloc (.cells xs.toArray E)) := by
  obtain ⟨ti, hti, hs1, hs2, hz⟩ := hE
  subst hs1
  have hpl : (parts.map fun (i, x) => (i, ρ x)).toList = vs.zipIdx.map fun p => (p.2, p.1) := by
    rw [Array.toList_map]; exact evs_map he hp
  have hfl : ∀ cs : Array Value, cs.size = len * ti.size → Instr.fill (fun i => some (i * ti.size, ti.size)) cs (parts.map fun (i, x) => (i, ρ x)).toList = some xs.toArray := by
    intro cs hc
    rw [fill_fillR, hpl, fillR_row vs cs 0 hcs (by rw [hc, hlen]; simp)]
    subst hxs
    simp only [Nat.zero_mul]
    rw [setR_all]
    rw [hc, hlen, List.length_flatMap]
    clear hp hpl hlen hsm hc
    induction vs with
    | nil => simp
    | cons v vs ih =>
      have := hcs v (by simp)
      simp only [List.map_cons, List.sum_cons, List.length_cons, Nat.add_mul, Nat.one_mul]
      rw [ih fun u hu => hcs u (by simp [hu])]
      simp [this]; omega
  have hxl : xs.length = len * ti.size := by
    have h1 := fillR_row vs (Array.replicate (len * ti.size) undef) 0 hcs (by rw [hlen]; simp)
    have h2 := hfl (Array.replicate (len * ti.size) undef) (by simp)
    rw [fill_fillR, hpl, h1] at h2
    have := congrArg (fun o => (o.map Array.size)) h2
    simpa using this.symm
  refine ⟨hxl, ?_⟩
  · have hnot : ¬ (16777216 < len * ti.size) := by omega
    simp only [execOp, Instr.buildSlice, Sem.run_bind, run_under (und_sl ht), Result.andThen_ok]
    by_cases h0 : len * ti.size = 0
    · have hf := hfl #[] (by simp [h0])
      have hf' : Instr.fill (fun i => some (i * ti.size, ti.size)) ((Array.range (len * ti.size)).map ((#[] : Array Value)[· % (#[] : Array Value).size]!)) (parts.map fun (i, x) => (i, ρ x)).toList = some xs.toArray := hfl _ (by simp)
      simp [sizeOf, typeInfo, hti, h0, newRow] at hf' ⊢
      have hf2 := hfl ((Array.range 0).map fun _ => (default : Value)) (by simp [h0])
      simp only [Array.toList_map] at hf2
      rw [hf2]; simp [newObj]; rfl
    · have hf := hfl ((Array.range (len * ti.size)).map (z.cells[· % z.cells.size]!)) (by simp)
      simp only [sizeOf, typeInfo, Sem.run_bind]
      simp [sizeOf, typeInfo, hti, hnot, h0, newRow, zeroValue, hz]
      simp at hf
      simp [hf]
/-- []T{..}, every element given -/
theorem e_buildSlice {t E : TypeId} {len sz bytes : Nat} {z : Value} {parts : Array (Nat × Operand)} (vs : List Value) (ht : slB P t E = true) (hE : elB P E sz bytes z) (hzs : z.cells.size = sz)
    (hp : parts.toList.map (fun p => (p.1, ev L p.2)) = (vs.zipIdx.map fun p => (p.2, p.1)).map (fun p => (p.1, some p.2))) (hlen : len = vs.length) (hcs : ∀ v ∈ vs, v.cells.size = sz) (hsm : len * sz ≤ 16777216) (xs : List Value) (hxs : (vs.flatMap fun v => v.cells.toList) = xs) :
    Eff F P ⟨d, .buildSlice t len parts, ty, pos, af, g⟩ L (Mem w0 own H) (fun b : Nat => .slice (some ⟨b, 0, none⟩) len len) (fun b => Mem w0 own (.sl (some ⟨b, 0, none⟩) len len E sz xs :: H)) := eff_mk fun ρ w he m => by
  obtain ⟨hxl, hr⟩ := run_buildSlice (d := d) (ty := ty) (pos := pos) (af := af) (g := g) he (w := w) vs ht hE hp hlen hcs hsm xs hxs
  refine ⟨w.heap.size, w.alloc (.cells xs.toArray E), .inl hr, ?_⟩
  · cases hl : len with
    | zero => 
      subst hl
      have : xs = [] := List.eq_nil_of_length_eq_zero (by simpa using hxl)
      subst this
      exact m.push (c := .sl (some ⟨w.heap.size, 0, none⟩) 0 0 E sz []) (by simp [Ch.keys]) rfl rfl rfl (by simp) (fun b hb => Go.RowKit.Below.heap_alloc _ _ _ hb) ⟨rfl, rfl, rfl⟩
    | succ l =>
      rw [hl] at hxl
      exact m.push (c := .sl (some ⟨w.heap.size, 0, none⟩) (l + 1) (l + 1) E sz xs) (by simp [Ch.keys]) rfl rfl rfl (by simp) (fun b hb => Go.RowKit.Below.heap_alloc _ _ _ hb)
        ⟨rfl, rfl, Nat.le_refl _, hxl, [], by simp [hxl], by simpa using heap_alloc_new w _⟩

/-- the same, as a block -/
theorem e_buildBlk {t E : TypeId} {len sz bytes : Nat} {z : Value} {parts : Array (Nat × Operand)} (vs : List Value) (ht : slB P t E = true) (hE : elB P E sz bytes z) (hzs : z.cells.size = sz)
    (hp : parts.toList.map (fun p => (p.1, ev L p.2)) = (vs.zipIdx.map fun p => (p.2, p.1)).map (fun p => (p.1, some p.2))) (hlen : len = vs.length) (hcs : ∀ v ∈ vs, v.cells.size = sz) (hsm : len * sz ≤ 16777216) (xs : List Value) (hxs : (vs.flatMap fun v => v.cells.toList) = xs) :
    Eff F P ⟨d, .buildSlice t len parts, ty, pos, af, g⟩ L (Mem w0 own H) (fun b : Nat => .slice (some ⟨b, 0, none⟩) len len) (fun b => Mem w0 own (.blk b (.cells xs.toArray E (0, 0)) :: H)) := eff_mk fun ρ w he m => by
  obtain ⟨hxl, hr⟩ := run_buildSlice (d := d) (ty := ty) (pos := pos) (af := af) (g := g) he (w := w) vs ht hE hp hlen hcs hsm xs hxs
  exact ⟨w.heap.size, w.alloc (.cells xs.toArray E), .inl hr, m.alloc _⟩
/-- make([]T, l, c) -/
theorem e_makeSlice {t E : TypeId} {x y : Operand} {sz bytes : Nat} {z : Value} {kl kc : IntKind} {i j : Int} (l c : Nat) (ht : slB P t E = true) (hE : elB P E sz bytes z) (hzs : z.cells = #[z]) (hsz : sz = 1) (hx : ev L x = some (.int kl i)) (hy : ev L y = some (.int kc j)) (hi : i = (l : Int)) (hj : j = (c : Int))
    (hlc : l ≤ c) (hb : bytes * c ≤ 281474976710656) (hc : c ≤ 9223372036854775807) :
    Eff F P ⟨d, .makeSlice t x y, ty, pos, af, g⟩ L (Mem w0 own H) (fun b : Nat => .slice (some ⟨b, 0, none⟩) l c) (fun b => Mem w0 own (.sl (some ⟨b, 0, none⟩) l c E sz (List.replicate l z) :: H)) := eff_mk fun ρ w he m => by
  obtain ⟨ti, hti, hs1, hs2, hz⟩ := hE
  subst hsz; subst hs2; subst hi; subst hj
  have hb' : (ti.bytes : Int) * (c : Int) ≤ 281474976710656 := by
    have h : ((ti.bytes * c : Nat) : Int) ≤ 281474976710656 := by omega
    rwa [Int.natCast_mul] at h
  have hr := run_make (P := P) w t E ti z (und_sl ht) hti hz kl kc l c (by omega) (by omega) hb' (by omega)
  simp only [Int.toNat_natCast, hs1, Nat.mul_one] at hr
  have hm : madeCells z.cells c = (List.replicate c z).toArray := by
    rw [hzs]
    apply Array.ext
    · simp [madeCells]
    · intro k h1 h2
      simp [madeCells, Nat.mod_one]
  rw [hm] at hr
  refine ⟨w.heap.size, w.alloc (.cells (List.replicate c z).toArray E), .inl ?_, ?_⟩
  · simp [execOp, he _ _ hx, he _ _ hy, hr]
  · cases hl : c with
    | zero =>
      subst hl
      have hl0 : l = 0 := by omega
      subst hl0
      exact m.push (c := .sl (some ⟨w.heap.size, 0, none⟩) 0 0 E 1 []) (by simp [Ch.keys]) rfl rfl rfl (by simp) (fun b hb => Go.RowKit.Below.heap_alloc _ _ _ hb) ⟨rfl, rfl, rfl⟩
    | succ c' =>
      subst hl
      refine m.push (c := .sl (some ⟨w.heap.size, 0, none⟩) l (c' + 1) E 1 (List.replicate l z)) (by simp [Ch.keys]) rfl rfl rfl (by simp) (fun b hb => Go.RowKit.Below.heap_alloc _ _ _ hb)
        ⟨rfl, rfl, hlc, by simp, List.replicate (c' + 1 - l) z, by simp; omega, ?_⟩
      have : List.replicate l z ++ List.replicate (c' + 1 - l) z = List.replicate (c' + 1) z := by rw [List.replicate_append_replicate]; congr 1; omega
      rw [this]; exact heap_alloc_new w _

/-- the places of a struct's fields -/
def stB (P : Program) (t : TypeId) (pl : List (Nat × Nat)) : Prop := (match P.underlying t with | some (.struct fs) => fs.toList.mapM (fun f => (P.info? f.type).map fun i => (f.offset, i.size)) | _ => none) = some pl
theorem y_build_st {t : TypeId} {pl : List (Nat × Nat)} {z : Value} {parts : Array (Nat × Operand)} (vs : List (Nat × Value)) (hs : stB P t pl) (hz : znB P t z) (hp : parts.toList.map (fun p => (p.1, ev L p.2)) = vs.map (fun p => (p.1, some p.2))) {cs : Array Value} (hf : fillR (pl[·]?) z.cells vs = some cs) :
    Yld P ⟨d, .build t parts, ty, pos, af, g⟩ L M (.agg cs) := .mk fun ρ w he _ => by
  have hpl : (parts.map fun (i, x) => (i, ρ x)).toList = vs := by rw [Array.toList_map]; exact evs_map he hp
  have hb : P.built t (parts.map fun (i, x) => (i, ρ x)).toList = some cs := by
    unfold stB at hs; unfold znB at hz
    unfold Program.built
    cases hi : P.info? t with
    | none => rw [hi] at hz; cases hz
    | some it =>
      cases hu : P.underlying t with
      | none => rw [hu] at hs; cases hs
      | some dd =>
        rw [hu] at hs; rw [hi] at hz
        have hz' : it.zero = some z := hz
        cases dd <;> simp only at hs <;> (try cases hs)
        simp only [hz']
        rw [hpl]
        simp only [hs]
        rw [fill_fillR]
        simpa using hf
  simp [execOp, run_build w t _ cs hb]
theorem y_build_ar {t e : TypeId} {len sz : Nat} {z : Value} {parts : Array (Nat × Operand)} (vs : List (Nat × Value)) (ht : arB P t len e = true) (hs : szB P e sz = true) (hz : znB P t z) (hp : parts.toList.map (fun p => (p.1, ev L p.2)) = vs.map (fun p => (p.1, some p.2))) {cs : Array Value} (hf : fillR (fun i => some (i * sz, sz)) z.cells vs = some cs) :
    Yld P ⟨d, .build t parts, ty, pos, af, g⟩ L M (.agg cs) := .mk fun ρ w he _ => by
  have hpl : (parts.map fun (i, x) => (i, ρ x)).toList = vs := by rw [Array.toList_map]; exact evs_map he hp
  have hb : P.built t (parts.map fun (i, x) => (i, ρ x)).toList = some cs := by
    unfold znB at hz; unfold szB at hs
    unfold Program.built
    cases hi : P.info? t with
    | none => rw [hi] at hz; cases hz
    | some it =>
      rw [hi] at hz
      have hz' : it.zero = some z := hz
      cases he' : P.info? e with
      | none => rw [he'] at hs; cases hs
      | some ie =>
        rw [he'] at hs
        have hs' : ie.size = sz := by simpa using hs
        simp only [und_ar ht, hz', he']
        rw [hpl, hs', fill_fillR]; exact hf
  simp [execOp, run_build w t _ cs hb]
/-- [n]T(s): the array behind a slice -/
theorem y_s2a {t e : TypeId} {x : Operand} {ad : Option Addr} {len cap k : Nat} (ht : arB P t k e = true) (hx : ev L x = some (.slice ad len cap)) (hk : k ≤ len) (hs : ∀ w, M w → ad.isSome = true) : Yld P ⟨d, .sliceToArrayPointer t x, ty, pos, af, g⟩ L M (.pointer (some (adr ad 0))) := .mk fun ρ w he hM => by
  obtain ⟨a, rfl⟩ := Option.isSome_iff_exists.1 (hs w hM)
  have h0 : a.add 0 = a := by unfold Addr.add; simp
  simp [execOp, he _ _ hx, Instr.arrayAt, run_under (und_ar ht), Nat.not_lt.2 hk, adr, h0]
/-- the cells behind such an address -/
theorem c_rds {ad : Option Addr} {m sz : Nat} {xs : List Value} (h : ∀ w, M w → Rd w ad m sz xs) (k : Nat) : ∀ w, M w → ∀ j v, (xs.take k)[j]? = some v → w.cell? ((adr ad 0).add j) = some v := fun w hm j v hj => by
  rw [List.getElem?_take] at hj
  split at hj
  · rw [adr_add, Nat.zero_add]; exact ((h w hm).2 j v hj).2
  · cases hj
/-- []byte of a constant string: the row is marked behind its cells -/
theorem e_conv_mark {t E : TypeId} {x : Operand} {i b m c : Nat} {cs : Array Value} {H' : List Ch} (ht : slB P t E = true) (hE : P.underlying E = some (.int .u8)) (hx : ev L x = some (.slice (some ⟨b, 0, none⟩) m c)) (hi : H[i]? = some (.blk b (.cells cs E (0, 0))))
    (hH : SetAt H i (.blk b (.cells cs E (cs.size, cs.size + 1))) H') : Eff F P ⟨d, .convert t t x, ty, pos, af, g⟩ L (Mem w0 own H) (fun _ : Unit => .slice (some ⟨b, 0, none⟩) m c) (fun _ => Mem w0 own H') := eff_mk fun ρ w he mm => by
  have hb := mm.blk hi
  have hsh : w.shape? b = some (E, cs.size) := by unfold World.shape?; rw [hb]
  refine ⟨(), w.freeze ⟨b, cs.size, none⟩ 1, .inl ?_, ?_⟩
  · simp [execOp, he _ _ hx, convert, underlying, und_sl ht, hE, markStringish, hsh]
  · rw [hH.eq]
    refine mm.upd hi ⟨?_, ?_, ?_, ?_, ?_, ?_⟩
    · unfold World.freeze; split <;> rfl
    · unfold World.freeze; split <;> rfl
    · unfold World.freeze; split <;> rfl
    · unfold World.freeze; split <;> simp
    · unfold World.freeze; rw [if_neg (by decide)]; simp [Array.getElem?_modify, hb]
    · intro k hk
      unfold World.freeze; rw [if_neg (by decide)]
      simp only
      rw [Array.getElem?_modify, if_neg (fun e => hk e.symm)]
theorem y_min2 {x y : Operand} {k : IntKind} {i j : Int} {tys : Array TypeId} (hx : ev L x = some (.int k i)) (hy : ev L y = some (.int k j)) : Yld P ⟨d, .call ⟨.builtin .min, #[x, y], tys⟩, ty, pos, af, g⟩ L M (.int k (min i j)) := .mk fun ρ w he _ => by
  simp [execOp, resolve, invoke, builtin, Builtin.min_, Builtin.min2, he _ _ hx, he _ _ hy]
  rw [Int.min_def]; split <;> split <;> first | rfl | omega
theorem y_max2 {x y : Operand} {k : IntKind} {i j : Int} {tys : Array TypeId} (hx : ev L x = some (.int k i)) (hy : ev L y = some (.int k j)) : Yld P ⟨d, .call ⟨.builtin .max, #[x, y], tys⟩, ty, pos, af, g⟩ L M (.int k (max i j)) := .mk fun ρ w he _ => by
  simp [execOp, resolve, invoke, builtin, Builtin.max_, Builtin.max2, he _ _ hx, he _ _ hy]
  rw [Int.max_def]; split <;> split <;> first | rfl | omega
theorem addn_i64 {a b : Nat} (h : a + b ≤ 9223372036854775807) : bin .add (ki (a : Int)) (ki (b : Int)) = some (ki ((a + b : Nat) : Int)) := by
  rw [add_i64 (by omega) (by omega)]; congr 2
theorem subn_i64 {a b : Nat} (h : b ≤ a) (h2 : a ≤ 9223372036854775807) : bin .sub (ki (a : Int)) (ki (b : Int)) = some (ki ((a - b : Nat) : Int)) := by
  rw [sub_i64 (by omega) (by omega)]; congr 2; omega
theorem muln_i64 {a b : Nat} (h : a * b ≤ 9223372036854775807) : bin .mul (ki (a : Int)) (ki (b : Int)) = some (ki ((a * b : Nat) : Int)) := by
  have : ((a * b : Nat) : Int) = (a : Int) * (b : Int) := Int.natCast_mul a b
  rw [mul_i64 (by rw [← this]; omega) (by rw [← this]; omega), this]
theorem quon_i64 {a b : Nat} (h : a ≤ 9223372036854775807) (h2 : 0 < b) : bin .quo (ki (a : Int)) (ki (b : Int)) = some (ki ((a / b : Nat) : Int)) := by
  rw [quo_i64 (by omega) (by omega) (by omega)]; congr 2
theorem remn_i64 {a b : Nat} (h2 : 0 < b) : bin .rem (ki (a : Int)) (ki (b : Int)) = some (ki ((a % b : Nat) : Int)) := by
  rw [rem_i64 (by omega) (by omega)]; congr 2
theorem sub_zero (ad : Option Addr) (m : Nat) : sub ad m 0 = ad := by
  unfold sub
  split
  · rfl
  · cases ad with
    | none => rfl
    | some a => simp only [Option.map_some]; congr 1
theorem Rd.sub1 {α : Type} {f : α → Value} {w : World} {ad : Option Addr} {n : Nat} {xs : List α} (h : Rd w ad n 1 (xs.map f)) {l k m : Nat} (hlk : l + k ≤ n) (hm : k ≤ m) : Rd w (Go.Mc.sub ad m l) k 1 (((xs.drop l).take k).map f) := by
  have := h.sub hlk hm
  simpa only [Nat.mul_one, ← List.map_drop, ← List.map_take] using this
theorem Rd.pre1 {α : Type} {f : α → Value} {w : World} {ad : Option Addr} {n : Nat} {xs : List α} (h : Rd w ad n 1 (xs.map f)) {k : Nat} (hlk : k ≤ n) : Rd w ad k 1 ((xs.take k).map f) := by
  have := h.sub1 (l := 0) (k := k) (m := k) (by omega) (Nat.le_refl _)
  simpa only [sub_zero, List.drop_zero] using this
theorem Rd.len {α : Type} {f : α → Value} {w : World} {ad : Option Addr} {n : Nat} {xs : List α} (h : Rd w ad n 1 (xs.map f)) : xs.length = n := by simpa using h.1
theorem Mem.rd_arr {α : Type} {f : α → Value} {w0 w : World} {own : List Nat} {H : List Ch} (m : Mem w0 own H w) {i b : Nat} {xs : List α} {E : TypeId} {fz : Nat × Nat} (hi : H[i]? = some (.blk b (.cells (arr f xs) E fz))) : Rd w (some ⟨b, 0, none⟩) xs.length 1 (xs.map f) :=
  m.rd_blk (n := xs.length) (sz := 1) hi (by simp)
theorem Mem.rd_arrl {α : Type} {f : α → Value} {w0 w : World} {own : List Nat} {H : List Ch} (m : Mem w0 own H w) {i b : Nat} {xs : List α} {E : TypeId} {fz : Nat × Nat} (hi : H[i]? = some (.blk b (.cells (arr f xs) E fz))) (l k : Nat) (hlk : l + k ≤ xs.length) : Rd w (some ⟨b, l, none⟩) k 1 (((xs.drop l).take k).map f) := by
  refine ⟨by simp; omega, fun j x hj => ⟨rfl, ?_⟩⟩
  have hj' := (List.getElem?_eq_some_iff.1 hj).1
  simp only [List.length_map, List.length_take, List.length_drop] at hj'
  rw [adr, Option.getD_some, Addr.add_mk, cell_of_heap (m.blk hi)]
  simp only [List.getElem?_map, List.getElem?_take, List.getElem?_drop] at hj ⊢
  rw [if_pos (by omega)] at hj
  simpa using hj
/-- s[:h] -/
theorem y_slice_sl0 {t e : TypeId} {x : Operand} {lo hi : Option Operand} {ad : Option Addr} {len cap sz : Nat} (ht : slB P t e = true) (hs : szB P e sz = true) (hx : ev L x = some (.slice ad len cap)) (h : Nat) (hh : obnd L hi len h) (hl : obnd L lo 0 0) (b2 : h ≤ cap) : Yld P ⟨d, .slice t x lo hi none, ty, pos, af, g⟩ L M (.slice ad h cap) := by
  have := y_slice_sl (d := d) (ty := ty) (pos := pos) (af := af) (g := g) (M := M) (lo := lo) (hi := hi) (mx := none) ht hs hx cap h 0 rfl hh hl (by simp) (Nat.le_refl _) b2 (Nat.zero_le _)
  simpa [sub_zero] using this
theorem y_slice_ar0 {t e : TypeId} {x : Operand} {lo hi : Option Operand} {b len sz : Nat} (ht : arB P t len e = true) (hs : szB P e sz = true) (hx : ev L x = some (.pointer (some ⟨b, 0, none⟩))) (h : Nat) (hh : obnd L hi len h) (hl : obnd L lo 0 0) (b2 : h ≤ len) : Yld P ⟨d, .slice t x lo hi none, ty, pos, af, g⟩ L M (.slice (some ⟨b, 0, none⟩) h len) := by
  have := y_slice_ar (d := d) (ty := ty) (pos := pos) (af := af) (g := g) (M := M) (lo := lo) (hi := hi) (mx := none) ht hs hx len h 0 rfl hh hl (by simp) (Nat.le_refl _) b2 (Nat.zero_le _)
  simpa [sub_zero] using this
theorem y_slice_arl {t e : TypeId} {x : Operand} {lo hi : Option Operand} {b len sz : Nat} (ht : arB P t len e = true) (hs : szB P e sz = true) (hx : ev L x = some (.pointer (some ⟨b, 0, none⟩))) (l h o : Nat) (hh : obnd L hi len h) (hl : obnd L lo 0 l) (b2 : h ≤ len) (b3 : l ≤ h) (b4 : l < len) (ho : l * sz = o) : Yld P ⟨d, .slice t x lo hi none, ty, pos, af, g⟩ L M (.slice (some ⟨b, o, none⟩) (h - l) (len - l)) := by
  have := y_slice_ar (d := d) (ty := ty) (pos := pos) (af := af) (g := g) (M := M) (lo := lo) (hi := hi) (mx := none) ht hs hx len h l rfl hh hl (by simp) (Nat.le_refl _) b2 b3
  subst ho
  have e : sub (some ⟨b, 0, none⟩) (len - l) (l * sz) = some ⟨b, l * sz, none⟩ := by
    unfold sub; rw [if_neg (by omega)]; simp
  rwa [e] at this
/-- an element of a slice of an array that is held -/
theorem y_indexAddr_slb {t e : TypeId} {x y : Operand} {len cap k b o : Nat} {q : IntKind} {i : Int} (ht : slB P t e = true) (hk : szB P e k = true) (hx : ev L x = some (.slice (some ⟨b, o, none⟩) len cap)) (hy : ev L y = some (.int q i)) (h0 : 0 ≤ i) (h1 : i < len) (m : Nat) (hm : o + i.toNat * k = m) :
    Yld P ⟨d, .indexAddr t x y, ty, pos, af, g⟩ L M (.pointer (some ⟨b, m, none⟩)) := by
  have := y_indexAddr_sl (d := d) (ty := ty) (pos := pos) (af := af) (g := g) (M := M) ht hk hx hy h0 h1 (fun _ _ => rfl) _ rfl
  rw [adr, Option.getD_some, Addr.add_mk, hm] at this
  exact this
/-- a store into a slice that is owned -/
theorem e_store_sl {t E : TypeId} {x y : Operand} {i k m cap : Nat} {ad : Option Addr} {xs : List Value} {v : Value} {H' : List Ch} (hs : szB P t 1 = true) (hx : ev L x = some (.pointer (some (adr ad k)))) (hy : ev L y = some v) (hi : H[i]? = some (.sl ad m cap E 1 xs)) (hone : v.oneCell' = true) (hk : k < m)
    (hH : SetAt H i (.sl ad m cap E 1 (xs.set k v)) H') : Eff F P ⟨d, .store t x y, ty, pos, af, g⟩ L (Mem w0 own H) (fun _ : Unit => undef) (fun _ => Mem w0 own H') := eff_mk fun ρ w he mm => by
  have hsat := mm.sat _ (List.mem_of_getElem? hi)
  have hc : v.cells = #[v] := by cases v <;> first | rfl | simp [Value.oneCell'] at hone
  cases ad with
  | none => obtain ⟨rfl, _, _⟩ := hsat; omega
  | some q =>
    cases cap with
    | zero => obtain ⟨rfl, _, _⟩ := hsat; omega
    | succ cap =>
      obtain ⟨h0, hsp, hkc, hlen, rest, hrest, hb⟩ := hsat
      obtain ⟨qb, qo, qs⟩ := q
      simp only at h0 hsp hb; subst h0; subst hsp
      rw [adr, Option.getD_some, Addr.add_mk, Nat.zero_add] at hx
      have hsz : k < (xs ++ rest).toArray.size := by simp; omega
      obtain ⟨w', hr, hu⟩ := run_storeVar (P := P) (o := k) hs (by rw [hc]; rfl) hb (by omega) (by rw [hc]; simpa using hone)
      refine ⟨(), w', .inr ⟨by simp [execOp, he _ _ hx, he _ _ hy, Instr.storeAt, Instr.sureAddr, hr], rfl⟩, ?_⟩
      rw [hH.eq]
      refine mm.change hi (fun b hb' => .inl (by simpa [Ch.keys] using hb')) hu.os hu.tape hu.output (by rw [hu.size]; exact Nat.le_refl _) (fun b _ hbn => hu.rest b (by simpa [Ch.keys] using hbn)) ?_
      refine ⟨rfl, rfl, hkc, by simpa using hlen, rest, by simpa using hrest, ?_⟩
      show w'.heap[qb]? = _
      rw [hu.blk, hc]
      simp only [setR]
      congr 2
      rw [List.setIfInBounds_toArray, List.set_append_left _ _ (by omega)]
theorem y_min2n {a b : Nat} {x y : Operand} {tys : Array TypeId} (hx : ev L x = some (ki (a : Int))) (hy : ev L y = some (ki (b : Int))) : Yld P ⟨d, .call ⟨.builtin .min, #[x, y], tys⟩, ty, pos, af, g⟩ L M (ki ((min a b : Nat) : Int)) := by
  have := y_min2 (P := P) (d := d) (ty := ty) (pos := pos) (af := af) (g := g) (M := M) (tys := tys) hx hy
  have e : min (a : Int) (b : Int) = ((min a b : Nat) : Int) := by omega
  rwa [e] at this
theorem y_max2n {a b : Nat} {x y : Operand} {tys : Array TypeId} (hx : ev L x = some (ki (a : Int))) (hy : ev L y = some (ki (b : Int))) : Yld P ⟨d, .call ⟨.builtin .max, #[x, y], tys⟩, ty, pos, af, g⟩ L M (ki ((max a b : Nat) : Int)) := by
  have := y_max2 (P := P) (d := d) (ty := ty) (pos := pos) (af := af) (g := g) (M := M) (tys := tys) hx hy
  have e : max (a : Int) (b : Int) = ((max a b : Nat) : Int) := by omega
  rwa [e] at this
theorem c_rds0 {w : World} {ad : Option Addr} {m : Nat} {xs : List Value} (h : Rd w ad m 1 xs) {cs : List Value} (k : Nat) (hcs : cs = xs.take k) : ∀ j v, cs[j]? = some v → w.cell? ((adr ad 0).add j) = some v :=
  hcs ▸ c_rds (M := fun w' => w' = w) (fun _ e => e ▸ h) k w rfl
section mapped
variable {α : Type} {f : α → Value} [One f]
theorem map_one (l : List α) : ∀ u ∈ l.map f, u.oneCell' = true := by
  intro u hu
  obtain ⟨x, _, rfl⟩ := List.mem_map.1 hu
  exact One.one x
theorem e_store_slm {t E : TypeId} {x y : Operand} {i k m cap : Nat} {ad : Option Addr} {xs : List α} {x' : α} {H' : List Ch} (hs : szB P t 1 = true) (hx : ev L x = some (.pointer (some (adr ad k)))) (hy : ev L y = some (f x')) (hi : H[i]? = some (.sl ad m cap E 1 (xs.map f))) (hk : k < m)
    (hH : SetAt H i (.sl ad m cap E 1 ((xs.set k x').map f)) H') : Eff F P ⟨d, .store t x y, ty, pos, af, g⟩ L (Mem w0 own H) (fun _ : Unit => undef) (fun _ => Mem w0 own H') :=
  e_store_sl hs hx hy hi (One.one x') hk (by rw [← List.map_set]; exact hH)
theorem e_appendm {xs news : List α} {t E : TypeId} {x y : Operand} {i k cap bytes m c : Nat} {z : Value} {ad a : Option Addr} {tys : Array TypeId} {H' : Option Addr × Nat → List Ch}
    (ht : slB P t E = true) (hE : elB P E 1 bytes z) (hzs : z.cells.size = 1) (htys : tys = #[t, t]) (hx : ev L x = some (.slice ad k cap)) (hy : ev L y = some (.slice a m c))
    (hi : H[i]? = some (.sl ad k cap E 1 (xs.map f))) (hr : ∀ w, Mem w0 own H w → Rd w a m 1 (news.map f)) (b1 : (k + m) * bytes ≤ 140737488355328) (b0 : k + m ≤ 140737488355328) (km : Nat) (hkm : k + m = km) {ys : List α} (hys : xs ++ news = ys)
    (hH : ∀ r : Option Addr × Nat, SetAt H i (.sl r.1 km r.2 E 1 (ys.map f)) (H' r)) :
    Eff F P ⟨d, .call ⟨.builtin .append, #[x, y], tys⟩, ty, pos, af, g⟩ L (Mem w0 own H) (fun r : Option Addr × Nat => .slice r.1 km r.2) (fun r => Mem w0 own (H' r)) := by
  subst hkm; subst hys
  exact e_append ht hE hzs (by decide) htys hx hy hi hr (map_one news) b1 b0 (by simpa only [List.map_append] using hH)
theorem e_makeSlm {t E : TypeId} {x y : Operand} {bytes : Nat} {zv : Value} {z : α} {kl kc : IntKind} {i j : Int} (l c : Nat) (ht : slB P t E = true) (hE : elB P E 1 bytes zv) (hzv : zv = f z) (hx : ev L x = some (.int kl i)) (hy : ev L y = some (.int kc j)) (hi : i = (l : Int)) (hj : j = (c : Int))
    (hlc : l ≤ c) (hb : bytes * c ≤ 281474976710656) (hc : c ≤ 9223372036854775807) {H' : Nat → List Ch} (hH : ∀ b : Nat, Ch.sl (some ⟨b, 0, none⟩) l c E 1 ((List.replicate l z).map f) :: H = H' b) :
    Eff F P ⟨d, .makeSlice t x y, ty, pos, af, g⟩ L (Mem w0 own H) (fun b : Nat => .slice (some ⟨b, 0, none⟩) l c) (fun b => Mem w0 own (H' b)) := by
  have hz1 : zv.cells = #[zv] := by
    subst hzv
    have := One.one (f := f) z
    cases h : f z <;> first | rfl | (rw [h] at this; simp [Value.oneCell'] at this)
  have := e_makeSlice (F := F) (P := P) (d := d) (ty := ty) (pos := pos) (af := af) (g := g) (w0 := w0) (own := own) (H := H) l c ht hE hz1 rfl hx hy hi hj hlc hb hc
  subst hzv
  rw [show H' = fun b => Ch.sl (some ⟨b, 0, none⟩) l c E 1 ((List.replicate l z).map f) :: H from funext fun b => (hH b).symm]
  simpa only [List.map_replicate] using this
end mapped
theorem arr_extract {α : Type} {f : α → Value} (l : List α) (i k : Nat) : (arr f l).extract i (i + k) = arr f ((l.drop i).take k) := by
  simp [arr, List.map_drop, List.map_take, List.extract_eq_take_drop]
abbrev kn (n : Nat) : Value := .int .i64 (n : Int)
instance : One kn := ⟨fun _ => rfl⟩
theorem run_loadVar_all {w : World} {t : TypeId} {k b : Nat} {cs : Array Value} {E : TypeId} {fz : Nat × Nat} (hs : agB P t k = true) (hb : w.heap[b]? = some (.cells cs E fz)) (hk : cs.size = k) : (loadVar t ⟨b, 0, none⟩).run P w = .ok (.agg cs) w := by
  have := run_loadVar_ag (P := P) (w := w) (a := ⟨b, 0, none⟩) (cs := cs.toList) hs (by simpa using hk) fun j v hj => by
    rw [Addr.add_mk, Nat.zero_add, cell_of_heap hb]; simpa using hj
  simpa using this
theorem shrn_i64 {a k : Nat} {q : IntKind} (hk : k ≤ 63) : bin .shr (ki (a : Int)) (.int q (k : Int)) = some (ki ((a / 2 ^ k : Nat) : Int)) := by
  have h : ¬ ((k : Int) < 0) := by omega
  have hm : min (k : Int).toNat IntKind.i64.bits = k := by simp [IntKind.bits]; omega
  simp only [bin, if_neg h, hm]
  have : ((a : Int).fdiv (2 ^ k)) = ((a / 2 ^ k : Nat) : Int) := by
    rw [Int.fdiv_eq_ediv_of_nonneg _ (Int.le_of_lt (Int.pow_pos (by decide)))]
    push_cast; rfl
  rw [this]
end
end Go.Mc

namespace Go.Mc
section
variable {P : Program} {n : Nat} {D : List Deferred} {L : List (Nat × Value)} {Q : Exit → Act → World → Prop} {w0 : World} {own : List Nat} {H : List Ch}
/-- for .. := range g { .. }: the record told by its state and by what is pending -/
theorem wc_range' {g : Operand} {ps : Array Tmp} {assign body : Code} {gf : FuncId} {first cap : Array Value} {α : Sort _} (V : α → Value) (H2 H3 : Nat → Nat → (LoopState → Option Code → Obj) → α → List Ch) (J : α → Option Code) (idx : α → Nat)
    (hg : ev L g = some (.func (.func gf) first cap)) (hcf : cfB P gf = true)
    (hcall : ∀ b l tm fn rec w, rec = (fun s p => loopRec fn tm ps assign body b s p) → Kept n L tm → Mem w0 own (.blk l (rec .ready none) :: .blk b (.deferred (some [])) :: H) w → Calls P gf (first ++ #[.func (.yield l) #[] #[]] ++ cap) w (Ret V (fun x => Mem w0 own (H2 b l rec x))))
    (hend : ∀ b l rec x, ∃ s, s ≠ .busy ∧ (H2 b l rec x)[idx x]? = some (.blk l (rec s (J x))))
    (hset : ∀ b l rec x, SetAt (H2 b l rec x) (idx x) (.blk l (rec .exhausted (J x))) (H3 b l rec x))
    (k : ∀ b l rec x, match J x with
      | none => AQ Q .normal n (markOf b :: D) L (Mem w0 own (H3 b l rec x))
      | some c => WC Fence.wide P Q n (markOf b :: D) c L (Mem w0 own (H3 b l rec x))) :
    WC Fence.wide P Q n D (.rangeFunc g ps assign body) L (Mem w0 own H) :=
  wc_range V (fun b l tm fn x => H2 b l (fun s p => loopRec fn tm ps assign body b s p) x) J idx hg hcf (fun b l tm fn w hk hm => hcall b l tm fn _ w rfl hk hm) (fun b l tm fn x => hend b l _ x) fun b l tm fn x => by
    have h := k b l (fun s p => loopRec fn tm ps assign body b s p) x
    rw [(hset b l (fun s p => loopRec fn tm ps assign body b s p) x).eq] at h
    exact h
/-- a loop that is left by its own body alone, each time the same way -/
theorem wc_range1 {g : Operand} {ps : Array Tmp} {assign body : Code} {gf : FuncId} {first cap : Array Value} {α : Sort _} (V : α → Value) (H2 H3 : Nat → Nat → (LoopState → Option Code → Obj) → α → List Ch) (c : Code) (idx : Nat)
    (hg : ev L g = some (.func (.func gf) first cap)) (hcf : cfB P gf = true)
    (hcall : ∀ b l tm fn rec w, rec = (fun s p => loopRec fn tm ps assign body b s p) → Kept n L tm → Mem w0 own (.blk l (rec .ready none) :: .blk b (.deferred (some [])) :: H) w → Calls P gf (first ++ #[.func (.yield l) #[] #[]] ++ cap) w (Ret V (fun x => Mem w0 own (H2 b l rec x))))
    (hend : ∀ b l rec x, (H2 b l rec x)[idx]? = some (.blk l (rec .done (some c))))
    (hset : ∀ b l rec x, SetAt (H2 b l rec x) idx (.blk l (rec .exhausted (some c))) (H3 b l rec x))
    (k : ∀ b l rec x, WC Fence.wide P Q n (markOf b :: D) c L (Mem w0 own (H3 b l rec x))) :
    WC Fence.wide P Q n D (.rangeFunc g ps assign body) L (Mem w0 own H) :=
  wc_range' V H2 H3 (fun _ => some c) (fun _ => idx) hg hcf hcall (fun b l rec x => ⟨.done, by simp, hend b l rec x⟩) hset k
/-- a loop that is never left by its body -/
theorem wc_range0 {g : Operand} {ps : Array Tmp} {assign body : Code} {gf : FuncId} {first cap : Array Value} {α : Sort _} (V : α → Value) (H2 H3 : Nat → Nat → (LoopState → Option Code → Obj) → α → List Ch) (idx : Nat)
    (hg : ev L g = some (.func (.func gf) first cap)) (hcf : cfB P gf = true)
    (hcall : ∀ b l tm fn rec w, rec = (fun s p => loopRec fn tm ps assign body b s p) → Kept n L tm → Mem w0 own (.blk l (rec .ready none) :: .blk b (.deferred (some [])) :: H) w → Calls P gf (first ++ #[.func (.yield l) #[] #[]] ++ cap) w (Ret V (fun x => Mem w0 own (H2 b l rec x))))
    (hend : ∀ b l rec x, (H2 b l rec x)[idx]? = some (.blk l (rec .ready none)))
    (hset : ∀ b l rec x, SetAt (H2 b l rec x) idx (.blk l (rec .exhausted none)) (H3 b l rec x))
    (k : ∀ b l rec x, AQ Q .normal n (markOf b :: D) L (Mem w0 own (H3 b l rec x))) :
    WC Fence.wide P Q n D (.rangeFunc g ps assign body) L (Mem w0 own H) :=
  wc_range' V H2 H3 (fun _ => none) (fun _ => idx) hg hcf hcall (fun b l rec x => ⟨.ready, by simp, hend b l rec x⟩) hset k
end
end Go.Mc

namespace Go.Mc
section
variable {P : Program} {b : Frame} {a : Act} {k : List Item} {cs : List Frame} {w : World}
theorem stepR_scope {c : Code} : step P (lone (b.atR a (.code (.scope c) :: k)) cs w) = .next (lone (b.atR a (.code c :: .inScope c :: k)) cs w) :=
  step_lone_go (by simp [stepG, stepG.exec, Frame.atR])
theorem stepR_inScope {c : Code} : step P (lone (b.atR a (.inScope c :: k)) cs w) = .next (lone (b.atR a k) cs w) :=
  step_lone_go (by simp [stepG, stepG.exec, Frame.atR])
end
section
variable {F : Fence} {n : Nat} {P : Program} {Q : Exit → Act → World → Prop} {a : Act} {w : World}
theorem wpIn_scope {c : Code} (h : c.wpIn F n P (Exit.noGoto Q) a w) : (Code.scope c).wpIn F n P Q a w := by
  intro b k cs hro hb hr
  have h0 : (lone (b.atR a (.code (.scope c) :: k)) cs w).fenced P F := fenced_calm hb hr rfl
  obtain ⟨e, a₁, w₁, hq, harr⟩ := h b (.inScope c :: k) cs hro hb hr
  cases e with
  | normal => exact ⟨.normal, a₁, w₁, hq, .head h0 stepR_scope (StepsIn.trans harr (.one (fenced_calm hb hr rfl) stepR_inScope))⟩
  | exit id' =>
    have hx : exitTo id' (.inScope c :: k) = exitTo id' k := by simp [exitTo]
    exact ⟨.exit id', a₁, w₁, hq, fun k' hk => .head h0 stepR_scope (harr.1 k' (by rw [hx]; exact hk)),
      fun hr' hk => let ⟨k₁, h1, h2⟩ := harr.2 hr' (by rw [hx]; exact hk); ⟨k₁, h1, .head h0 stepR_scope h2⟩⟩
  | goto l => exact hq.elim
  | ret => exact ⟨_, a₁, w₁, hq, .of_steps (.one h0 stepR_scope) harr⟩
  | panic ch => exact ⟨_, a₁, w₁, hq, .of_steps (.one h0 stepR_scope) harr⟩
  | outgrown => exact ⟨_, a₁, w₁, hq, .of_steps (.one h0 stepR_scope) harr⟩
variable {D : List Deferred} {L : List (Nat × Value)} {M : World → Prop}
theorem wc_scope {c : Code} (h : WC F P (Exit.noGoto Q) n D c L M) : WC F P Q n D (.scope c) L M := .mk fun a w s => wpIn_scope (h.out a w s)
theorem aq_ng_normal (h : AQ Q .normal n D L M) : AQ (Exit.noGoto Q) .normal n D L M := .mk fun a w s => h.out a w s
theorem aq_ng_ret (h : AQ Q .ret n D L M) : AQ (Exit.noGoto Q) .ret n D L M := .mk fun a w s => h.out a w s
theorem aq_ng_exit {id : Nat} (h : AQ Q (.exit id) n D L M) : AQ (Exit.noGoto Q) (.exit id) n D L M := .mk fun a w s => h.out a w s
end
end Go.Mc

namespace Go.Mc
variable {F : Fence} {P : Program} {n : Nat} {D : List Deferred} {L : List (Nat × Value)} {M : World → Prop} {ops : Array Oper}
variable {Q : Exit → Act → World → Prop} {C : World → Prop}
/-- a plan with one fork: quiet ones, then two effects in either order -/
def planB2 (ops : Array Oper) (i j : Nat) (pi pj : List (Nat × PK)) : List Nat → Array Bool → Bool
  | [], listed => decide (Region.ready .any ops listed = [i, j]) && planB ops pi (listed.setIfInBounds i true) && planB ops pj (listed.setIfInBounds j true) && pi.length == pj.length
  | k :: r, listed => (Region.ready .any ops listed).contains k && Region.free .any ops listed k && planB2 ops i j pi pj r (listed.setIfInBounds k true)
def WP2 (F : Fence) (P : Program) (ops : Array Oper) (Q : Exit → Act → World → Prop) (n : Nat) (D : List Deferred) (C : World → Prop) (i j : Nat) (pi pj : List (Nat × PK)) (pre : List Nat) (L : List (Nat × Value)) (M : World → Prop) : Prop :=
  Box (plainB ops = true → ∀ listed, lClosed ops listed → planB2 ops i j pi pj pre listed = true → ∀ a w, St n L D M a w → anyE F P ops (fun a w => Q .normal a w) C (pre.length + (1 + pi.length)) listed a w)

theorem wc_draw2 {id : Nat} {l : List Oper} (pre : List Nat) (i j : Nat) (pi pj : List (Nat × PK)) (hm : P.follows .mixedOrders = true) (hp : (plainB l.toArray && planB2 l.toArray i j pi pj pre (Array.replicate l.length false) && pre.length + (1 + pi.length) == l.length) = true) (hcl : Closed M)
    (h : WP2 F P l.toArray Q n D M i j pi pj pre L M) : WC F P Q n D (.region id l.toArray true) L M := by
  simp only [Bool.and_eq_true, beq_iff_eq] at hp
  obtain ⟨⟨h1, h2⟩, h3⟩ := hp
  refine .mk fun a w s => ?_
  refine wpIn_region_any hm (wpAnyIn_of_anyE _ M _ _ _ ?_)
  have := h.out h1 (Array.replicate l.length false) ⟨by simp, fun j oj _ hl => by
    rcases Nat.lt_or_ge j l.length with h' | h'
    · simp [h'] at hl
    · simp [h'] at hl⟩ h2 a { w with drawn := w.drawn + 1 } ⟨s.agr, s.dfr, hcl _ _ s.mem ⟨rfl, rfl, rfl, Nat.le_refl _, fun _ _ => rfl⟩⟩
  rw [h3] at this
  simpa using this
theorem wp2_q [Wide F] {k i j : Nat} {pi pj : List (Nat × PK)} {pre : List Nat} {o : Oper} {v : Value} (hi : ops[k]? = some o) (hC : Closed C) (hMC : ∀ w, M w → C w) (hM : Closed M) (hd : okDst o.dst n = true)
    (hy : Qt F P o n L C v) (hg : GOn ops L o.guard) (h : WP2 F P ops Q n D C i j pi pj pre (putL o.dst v L) M) : WP2 F P ops Q n D C i j pi pj (k :: pre) L M := by
  refine .mk fun hpl listed hlc hp a w s => ?_
  simp only [planB2, Bool.and_eq_true] at hp
  obtain ⟨⟨h1, h2⟩, h3⟩ := hp
  have hr : k ∈ Region.ready .any ops listed := by simpa using h1
  rw [show (k :: pre).length + (1 + pi.length) = (pre.length + (1 + pi.length)) + 1 by simp; omega]
  exact anyE_quiet hi (plainB_spec hpl) _ C listed a w hC hlc (Region.free_spec hi h2) hr (.inl ⟨wanted_on s.agr hg, fun w' hw' => hy.out a w' s.agr hw'⟩) (hMC _ s.mem)
    fun w2 he => h.out hpl _ (hlc.set hr) h3 _ w2 ⟨s.agr.putL _ hd _, (put_defers _ _ _).trans s.dfr, hM _ _ s.mem he⟩
/-- two effects, in either order; the class is kept -/
theorem wp2_two [Wide F] {i j : Nat} {pi pj : List (Nat × PK)} {o o' : Oper} {α β : Sort _} {V : α → Value} {M' : α → World → Prop} {V' : β → Value} {M'' : β → World → Prop} (hi : ops[i]? = some o) (hj : ops[j]? = some o')
    (hd : okDst o.dst n = true) (hn : isDefer o.op = false) (h : Eff F P o L M V M') (hg : GOn ops L o.guard)
    (hd' : okDst o'.dst n = true) (hn' : isDefer o'.op = false) (h' : Eff F P o' L M V' M'') (hg' : GOn ops L o'.guard) (hC : Closed C)
    (hMC : ∀ x w, M' x w → C w) (hM : ∀ x, Closed (M' x)) (hMC' : ∀ x w, M'' x w → C w) (hM' : ∀ x, Closed (M'' x))
    (k : ∀ x, WP F P ops Q n D C pi (putL o.dst (V x) L) (M' x)) (k' : ∀ x, WP F P ops Q n D C pj (putL o'.dst (V' x) L) (M'' x)) : WP2 F P ops Q n D C i j pi pj [] L M := by
  refine .mk fun hpl listed hlc hp a w s => ?_
  simp only [planB2, Bool.and_eq_true, decide_eq_true_eq, beq_iff_eq] at hp
  obtain ⟨⟨⟨h1, h3⟩, h4⟩, h5⟩ := hp
  have hri : i ∈ Region.ready .any ops listed := by rw [h1]; simp
  have hrj : j ∈ Region.ready .any ops listed := by rw [h1]; simp
  rw [show ([] : List Nat).length + (1 + pi.length) = pi.length + 1 by simp; omega]
  refine ⟨fun h => (by rw [h1] at h; cases h), fun q hq => ?_⟩
  rw [h1] at hq
  simp only [List.mem_cons, List.not_mem_nil, or_false] at hq
  rcases hq with rfl | rfl
  · unfold opE wpOpIn
    simp only [hi, wanted_on s.agr hg, if_true]
    refine ⟨fun f _ => Wide.fn f, ?_⟩
    rw [semAt_of hn]
    exact Eff.upon (h.out a.eval w s.agr.ev s.mem) fun x w' hm => .inr (.inr ⟨C, hC, fun _ h => h, hMC x _ hm, fun w2 he => (k x).out hpl _ (hlc.set hri) h3 _ w2 ⟨s.agr.putL _ hd _, (put_defers _ _ _).trans s.dfr, hM x _ _ hm he⟩⟩)
  · unfold opE wpOpIn
    simp only [hj, wanted_on s.agr hg', if_true]
    refine ⟨fun f _ => Wide.fn f, ?_⟩
    rw [semAt_of hn']
    rw [h5]
    exact Eff.upon (h'.out a.eval w s.agr.ev s.mem) fun x w' hm => .inr (.inr ⟨C, hC, fun _ h => h, hMC' x _ hm, fun w2 he => (k' x).out hpl _ (hlc.set hrj) h4 _ w2 ⟨s.agr.putL _ hd' _, (put_defers _ _ _).trans s.dfr, hM' x _ _ hm he⟩⟩)

/-- the chunks in the other order -/
theorem Mem.swap {w0 w : World} {own : List Nat} {A B : List Ch} (m : Mem w0 own (A ++ B) w) : Mem w0 own (B ++ A) w := by
  have hm : ∀ c, c ∈ B ++ A → c ∈ A ++ B := fun c hc => by
    rcases List.mem_append.1 hc with h | h
    · exact List.mem_append_right _ h
    · exact List.mem_append_left _ h
  refine ⟨m.os, m.tape, m.output, m.size, m.frame, fun c hc => m.sat c (hm c hc), ?_, fun c hc => m.mine c (hm c hc)⟩
  obtain ⟨h1, h2, h3⟩ := List.pairwise_append.1 m.apart
  exact List.pairwise_append.2 ⟨h2, h1, fun c hc d hd b hb hb' => h3 d hd c hc b hb' hb⟩
theorem Mem.pickT {w0 w : World} {own : List Nat} {A B A' : List Ch} (m : Mem w0 own (A ++ B) w) {is : List Nat} (hp : Picks is A A') (hn : is.Nodup) : Mem w0 own (A' ++ B) w := by
  have hA : Mem w0 own A w := ⟨m.os, m.tape, m.output, m.size, m.frame, fun c hc => m.sat c (List.mem_append_left _ hc), (List.pairwise_append.1 m.apart).1, fun c hc => m.mine c (List.mem_append_left _ hc)⟩
  have hA' := hA.pick hp hn
  obtain ⟨h1, h2, h3⟩ := List.pairwise_append.1 m.apart
  have hsub : ∀ c ∈ A', c ∈ A := fun c hc => by obtain ⟨i, _, h⟩ := hp.mem c hc; exact List.mem_of_getElem? h
  refine ⟨m.os, m.tape, m.output, m.size, m.frame, fun c hc => ?_, List.pairwise_append.2 ⟨hA'.apart, h2, fun c hc d hd => h3 c (hsub c hc) d hd⟩, fun c hc => ?_⟩
  · rcases List.mem_append.1 hc with h | h
    · exact hA'.sat c h
    · exact m.sat c (List.mem_append_right _ h)
  · rcases List.mem_append.1 hc with h | h
    · exact hA'.mine c h
    · exact m.mine c (List.mem_append_right _ h)
section
variable {w0 : World} {own : List Nat} {H : List Ch}
variable {d : Option Tmp} {ty : TypeId} {pos : String} {af : Array Edge} {g : Option (Nat × Bool)}
/-- a yield that is handed what stands behind A -/
theorem e_yieldS [Wide F] {x : Operand} {l : Nat} {args : Array Operand} {tys : Array TypeId} {vs : List Value} {α : Sort _} {V : α → Value} {B' : α → List Ch} (A B : List Ch) (hH : H = A ++ B) (hx : ev L x = some (.func (.yield l) #[] #[])) (ha : evs L args.toList = some vs)
    (hY : ∀ w, Mem w0 own (B ++ A) w → Yields P l vs w (Ret V (fun x => Mem w0 own (B' x ++ A)))) :
    Eff F P ⟨d, .call ⟨.value x, args, tys⟩, ty, pos, af, g⟩ L (Mem w0 own H) V (fun x => Mem w0 own (A ++ B' x)) := by
  subst hH
  exact e_yield hx ha fun w m => (hY w m.swap).mono fun e w' ⟨x, he, hm⟩ => ⟨x, he, hm.swap⟩
end
end Go.Mc

namespace Go.Mc
section
variable {F : Fence} {P : Program} {n : Nat} {L : List (Nat × Value)} {M : World → Prop} {w0 : World} {own : List Nat} {H : List Ch}
variable {d : Option Tmp} {ty : TypeId} {pos : String} {af : Array Edge} {g : Option (Nat × Bool)}
/-- a slice against nil -/
theorem y_eqnil {t t' e : TypeId} {x : Operand} {ad : Option Addr} {k c : Nat} (ht : slB P t e = true) (hx : ev L x = some (.slice ad k c)) : Yld P ⟨d, .binOp .eql t x (.const (.slice none 0 0)) t', ty, pos, af, g⟩ L M (.bool ad.isNone) := .mk fun ρ w he _ => by
  have h1 := he _ _ hx
  have h2 : ρ (.const (.slice none 0 0)) = .slice none 0 0 := he _ _ rfl
  have hq : (Op.equalIn (9999 + 1) t (.slice ad k c) (.slice none 0 0)).run P w = .ok ad.isNone w := by
    have key : ∀ m, (Op.equalIn (m + 1) t (.slice ad k c) (.slice none 0 0)).run P w = .ok ad.isNone w := by
      intro m
      cases ad <;> simp [Op.equalIn, run_under (und_sl ht)]
    exact key 9999
  have hq' : (Op.equalIn 10000 t (.slice ad k c) (.slice none 0 0)).run P w = .ok ad.isNone w := hq
  simp [execOp, h1, h2, eqGuard, binOp, Op.equal, Op.maxDepth, hq']
end
end Go.Mc

namespace Go.Mc
theorem Mem.shrink {α : Type} {f : α → Value} {w0 w : World} {own : List Nat} {H : List Ch} {ad : Option Addr} {n cap : Nat} {E : TypeId} {xs : List α} (m : Mem w0 own (.sl ad n cap E 1 (xs.map f) :: H) w) (k : Nat) (hk : k ≤ n) : Mem w0 own (.sl ad k cap E 1 ((xs.take k).map f) :: H) w := by
  have hsat := m.sat (.sl ad n cap E 1 (xs.map f)) (by simp)
  have hs' : (Ch.sl ad k cap E 1 ((xs.take k).map f)).sat (World.at w) := by
    cases ad with
    | none => obtain ⟨h1, h2, h3⟩ := hsat; subst h1; subst h2; have : k = 0 := by omega
              subst this; exact ⟨rfl, rfl, by simp⟩
    | some a =>
      cases cap with
      | zero => obtain ⟨h1, _, h3⟩ := hsat; have : k = 0 := by omega
                subst this; exact ⟨rfl, rfl, by simp⟩
      | succ cap =>
        obtain ⟨h1, h2, h3, h4, rest, h5, h6⟩ := hsat
        simp only [List.length_map, Nat.mul_one] at h4
        refine ⟨h1, h2, by omega, by simp; omega, (xs.drop k).map f ++ rest, by simp at h5 ⊢; omega, ?_⟩
        rw [h6, ← List.append_assoc, ← List.map_append, List.take_append_drop]
  have hm : ∀ c ∈ (Ch.sl ad k cap E 1 ((xs.take k).map f) :: H), c ∈ H ∨ c = .sl ad k cap E 1 ((xs.take k).map f) := fun c hc => by
    rcases List.mem_cons.1 hc with h | h
    · exact .inr h
    · exact .inl h
  have hk' : (Ch.sl ad k cap E 1 ((xs.take k).map f)).keys = (Ch.sl ad n cap E 1 (xs.map f)).keys := by
    cases ad <;> cases cap <;> rfl
  refine ⟨m.os, m.tape, m.output, m.size, m.frame, fun c hc => ?_, ?_, fun c hc => ?_⟩
  · rcases hm c hc with h | rfl
    · exact m.sat c (by simp [h])
    · exact hs'
  · obtain ⟨h1, h2⟩ := List.pairwise_cons.1 m.apart
    exact List.Pairwise.cons (fun d hd => by rw [hk']; exact h1 d hd) h2
  · rcases hm c hc with h | rfl
    · exact m.mine c (by simp [h])
    · rw [hk']; exact m.mine _ (by simp)
section
variable {F : Fence} {P : Program} {n : Nat} {L : List (Nat × Value)} {M : World → Prop} {w0 : World} {own : List Nat} {H : List Ch}
variable {d : Option Tmp} {ty : TypeId} {pos : String} {af : Array Edge} {g : Option (Nat × Bool)}
/-- append(nil, make([]T, n)..) -/
theorem e_appendz {α : Type} {f : α → Value} [One f] {t E tx : TypeId} {x y : Operand} {bytes m : Nat} {z : Value} {z' : α} {tys : Array TypeId} (ht : slB P t E = true) (hE : elB P E 1 bytes z) (hz : z = f z') (htx : P.underlying tx = some (.int .i64)) (htys : tys = #[t, tx]) (hx : ev L x = some (.slice none 0 0)) (hy : ev L y = some (ki (m : Int)))
    (h0 : 0 < m) (b1 : m * bytes ≤ 140737488355328) (b0 : m ≤ 140737488355328) :
    Eff F P ⟨d, .call ⟨.builtin .append, #[x, y], tys⟩, ty, pos, af, g⟩ L (Mem w0 own H) (fun r : Option Addr × Nat => .slice r.1 m r.2) (fun r => Mem w0 own (.sl r.1 m r.2 E 1 ((List.replicate m z').map f) :: H)) := eff_mk fun ρ w he mm => by
  obtain ⟨ti, hti, hs1, hs2, hz0⟩ := hE
  subst hs2; subst htys
  have hz1 : z.cells = #[z] := by
    subst hz
    have := One.one (f := f) z'
    cases h : f z' <;> first | rfl | (rw [h] at this; simp [Value.oneCell'] at this)
  have hge := grownCap_ge w m 0 E
  have hzc : ∀ k, Builtin.zeroCells z.cells k = (List.replicate k z).toArray := by
    intro k; rw [hz1]
    apply Array.ext
    · simp [Builtin.zeroCells]
    · intro i h1 h2; simp [Builtin.zeroCells, Nat.mod_one]
  have hwl : IntKind.i64.wrap (m : Int) = (m : Int) := wrap_i64 (by omega) (by omega)
  have hb' : ¬ ((281474976710656 : Int) < (m : Int) * ti.bytes) := by
    have : ((m * ti.bytes : Nat) : Int) ≤ 281474976710656 := by omega
    rw [Int.natCast_mul] at this; omega
  have hns : ¬ (281474976710656 < Builtin.nextslicecap m 0 * ti.bytes) := by rw [nextslicecap_zero h0]; omega
  have h63 : ¬ (9223372036854775807 < (m : Int)) := by omega
  have hm0 : m ≠ 0 := by omega
  have hpos : 0 < grownCap w m 0 E := by omega
  have hrest : (List.replicate m z).length = m * 1 := by simp
  have hrun : (Builtin.append_ #[t, tx] ty #[.slice none 0 0, ki (m : Int)]).run P w = .ok (.slice (some ⟨w.heap.size, 0, none⟩) m (grownCap w m 0 E)) (w.drew.alloc (.cells (List.replicate m z ++ List.replicate (grownCap w m 0 E - m) z).toArray E)) := by
    simp [Builtin.append_, run_underlying (und_sl ht), run_underlying htx, sizeOf, typeInfo, hti, asInt, asIntOf, hwl, hb', h63, hns, Question.forced, zeroValue, hz0, newRow, grownCap, hm0, hs1, hzc, run_firstCells_none]
    intro hneg; exact absurd hneg (by omega)
  refine ⟨(some ⟨w.heap.size, 0, none⟩, grownCap w m 0 E), w.drew.alloc (.cells (List.replicate m z ++ List.replicate (grownCap w m 0 E - m) z).toArray E), .inl (by simp only [execOp, resolve, invoke, builtin, Sem.run_bind, Sem.run_pure, Result.andThen_ok, List.map_toArray, List.map_cons, List.map_nil, he _ _ hx, he _ _ hy]; rw [hrun]; rfl), ?_⟩
  have hs := sat_new (w := w.drew) (n := m) (cap := grownCap w m 0 E) (sz := 1) (E := E) (xs := List.replicate m z) (rest := List.replicate (grownCap w m 0 E - m) z) hrest hge hpos (by simp; omega)
  subst hz
  simp only [List.map_replicate]
  refine mm.push (c := .sl (some ⟨w.heap.size, 0, none⟩) m (grownCap w m 0 E) E 1 (List.replicate m (f z'))) (fun b hb' => ?_) rfl rfl rfl (by simp) (fun b hb => Go.RowKit.Below.heap_alloc _ _ _ hb) hs
  obtain ⟨cc, hcc⟩ := Nat.exists_eq_succ_of_ne_zero (Nat.pos_iff_ne_zero.1 hpos)
  simp only [hcc, Ch.keys, List.mem_singleton] at hb'
  subst hb'; exact Nat.le_refl _
/-- a piece: its address, its length, its room, what it reads as -/
abbrev Pc : Type := Option Addr × Nat × Nat × List UInt8
def pv (p : Pc) : Value := .slice p.1 p.2.1 p.2.2.1
instance : One pv := ⟨fun _ => rfl⟩
end
end Go.Mc

namespace Go.Mc
theorem setR_app : ∀ (xs ys : List Value) (cs : Array Value) (o : Nat), setR (setR cs o xs) (o + xs.length) ys = setR cs o (xs ++ ys) := by
  intro xs
  induction xs with
  | nil => intro ys cs o; rfl
  | cons x xs ih => intro ys cs o; simp only [setR, List.length_cons, List.cons_append]; rw [← ih, Nat.add_right_comm, Nat.add_assoc]
section
variable {F : Fence} {P : Program} {n : Nat} {L : List (Nat × Value)} {M : World → Prop} {w0 : World} {own : List Nat} {H : List Ch}
variable {d : Option Tmp} {ty : TypeId} {pos : String} {af : Array Edge} {g : Option (Nat × Bool)}
variable {α : Type} {f : α → Value}
theorem fillR_two {a b : List α} {la lb : Nat} {zc : Array Value} (ha : a.length = la) (hb : b.length = lb) (hz : zc.size = la + lb) :
    fillR ([(0, la), (la, lb)][·]?) zc [(0, .agg (arr f a)), (1, .agg (arr f b))] = some (arr f (a ++ b)) := by
  subst ha; subst hb
  have e1 : (Value.agg (arr f a)).cells = arr f a := rfl
  have e2 : (Value.agg (arr f b)).cells = arr f b := rfl
  simp only [fillR, List.getElem?_cons_zero, List.getElem?_cons_succ, e1, e2]
  rw [if_neg (by simp [hz]), if_neg (by simp [hz])]
  congr 1
  have h := setR_app (a.map f) (b.map f) zc 0
  simp only [Nat.zero_add, List.length_map] at h
  simp only [arr]
  rw [h, setR_all _ _ (by simp [hz]), ← List.map_append]
/-- a struct of two arrays -/
theorem y_build_arr2 {t : TypeId} {z : Value} {parts : Array (Nat × Operand)} {a b : List α} {la lb : Nat} (hs : stB P t [(0, la), (la, lb)]) (hz : znB P t z) (hp : parts.toList.map (fun p => (p.1, ev L p.2)) = [(0, some (.agg (arr f a))), (1, some (.agg (arr f b)))]) (ha : a.length = la) (hb : b.length = lb) (hzs : z.cells.size = la + lb) :
    Yld P ⟨d, .build t parts, ty, pos, af, g⟩ L M (.agg (arr f (a ++ b))) :=
  y_build_st [(0, .agg (arr f a)), (1, .agg (arr f b))] hs hz hp (fillR_two ha hb hzs)
theorem arr_part (l : List α) (off k : Nat) : ∀ j v, (((l.drop off).take k).map f)[j]? = some v → (arr f l)[off + j]? = some v := by
  intro j v hj
  have hj' := (List.getElem?_eq_some_iff.1 hj).1
  simp only [List.length_map, List.length_take, List.length_drop] at hj'
  simp only [List.getElem?_map, List.getElem?_take, List.getElem?_drop] at hj
  rw [if_pos (by omega)] at hj
  simpa [arr] using hj
end
end Go.Mc
