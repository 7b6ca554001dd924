/- Memory held in pieces. No condition. -/
import Derived.Test.YtnkldldojalklaaEOps
set_option linter.all false
namespace Go.Mc

/-- the address of cell k behind an address -/
def adr (ad : Option Addr) (k : Nat) : Addr := (ad.getD ⟨0, 0, none⟩).add k
@[simp] theorem Addr.add_mk (b o k : Nat) : (⟨b, o, none⟩ : Addr).add k = ⟨b, o + k, none⟩ := by
  unfold Addr.add; split <;> simp_all
theorem Addr.add_add (a : Addr) (i j : Nat) : (a.add i).add j = a.add (i + j) := by
  unfold Addr.add
  by_cases hi : i = 0 <;> by_cases hj : j = 0 <;> simp_all
  omega
theorem adr_add (ad : Option Addr) (i j : Nat) : (adr ad i).add j = adr ad (i + j) := Addr.add_add _ _ _
theorem Addr.add_block (a : Addr) (k : Nat) : (a.add k).block = a.block := by unfold Addr.add; split <;> rfl

/-- a piece of memory that is held -/
inductive Ch where
  | blk (b : Nat) (o : Obj)
  | sl (ad : Option Addr) (n cap : Nat) (E : TypeId) (sz : Nat) (xs : List Value)

def Ch.keys : Ch → List Nat
  | .blk b _ => [b]
  | .sl (some a) _ (_ + 1) _ _ _ => [a.block]
  | .sl _ _ _ _ _ _ => []

def Ch.sat (h : Nat → Option Obj) : Ch → Prop
  | .blk b o => h b = some o
  | .sl (some a) n (cap + 1) E sz xs => a.off = 0 ∧ a.spot = none ∧ n ≤ cap + 1 ∧ xs.length = n * sz ∧ ∃ rest, (cap + 1) * sz ≤ xs.length + List.length rest ∧ h a.block = some (.cells (xs ++ rest).toArray E (0, 0))
  | .sl _ n cap _ _ xs => n = 0 ∧ cap = 0 ∧ xs = []

theorem Ch.sat_of {h h' : Nat → Option Obj} {c : Ch} (hs : c.sat h) (he : ∀ b ∈ c.keys, h' b = h b) : c.sat h' := by
  cases c with
  | blk b o => simp only [Ch.sat, Ch.keys] at *; rw [he b (by simp)]; exact hs
  | sl ad n cap E sz xs =>
    cases ad with
    | none => exact hs
    | some a =>
      cases cap with
      | zero => exact hs
      | succ cap => simp only [Ch.sat, Ch.keys] at *; rw [he a.block (by simp)]; exact hs

theorem Ch.sat_some {h : Nat → Option Obj} {c : Ch} (hs : c.sat h) : ∀ b ∈ c.keys, (h b).isSome = true := by
  intro b hb
  cases c with
  | blk b' o => simp only [Ch.sat, Ch.keys, List.mem_singleton] at *; subst hb; simp [hs]
  | sl ad n cap E sz xs =>
    cases ad with
    | none => cases hb
    | some a =>
      cases cap with
      | zero => cases hb
      | succ cap =>
      simp only [Ch.keys, List.mem_singleton] at hb; subst hb
      obtain ⟨_, _, _, _, rest, _, h1⟩ := hs
      simp [h1]

abbrev World.at (w : World) : Nat → Option Obj := fun b => w.heap[b]?

def Apart (H : List Ch) : Prop := H.Pairwise fun c d => ∀ b ∈ c.keys, b ∉ d.keys

structure Mem (w0 : World) (own : List Nat) (H : List Ch) (w : World) : Prop where
  os : w.os = w0.os
  tape : w.tape = w0.tape
  output : w.output = w0.output
  size : w0.heap.size ≤ w.heap.size
  frame : ∀ b, b < w0.heap.size → b ∉ own → w.heap[b]? = w0.heap[b]?
  sat : ∀ c ∈ H, c.sat (World.at w)
  apart : Apart H
  mine : ∀ c ∈ H, ∀ b ∈ c.keys, b ∈ own ∨ w0.heap.size ≤ b

theorem lt_of_some {w : World} {b : Nat} (h : (World.at w b).isSome = true) : b < w.heap.size := by
  rcases Nat.lt_or_ge b w.heap.size with h' | h'
  · exact h'
  · simp [Array.getElem?_eq_none h'] at h

theorem Mem.key_lt {w0 w : World} {own : List Nat} {H : List Ch} (m : Mem w0 own H w) {c : Ch} (hc : c ∈ H) {b : Nat} (hb : b ∈ c.keys) : b < w.heap.size :=
  lt_of_some (Ch.sat_some (m.sat c hc) b hb)

theorem Mem.refl (w : World) : Mem w [] [] w := ⟨rfl, rfl, rfl, Nat.le_refl _, fun _ _ _ => rfl, fun _ h => (by cases h), List.Pairwise.nil, fun _ h => (by cases h)⟩

theorem Mem.start {w : World} {H : List Ch} (hs : ∀ c ∈ H, c.sat (World.at w)) (ha : Apart H) : Mem w (H.flatMap Ch.keys) H w :=
  ⟨rfl, rfl, rfl, Nat.le_refl _, fun _ _ _ => rfl, hs, ha, fun c hc b hb => .inl (List.mem_flatMap.2 ⟨c, hc, hb⟩)⟩

theorem Mem.below {w w' : World} {H : List Ch} (m : Mem w [] H w') : Go.RowKit.Below w.heap.size w w' := ⟨m.os, m.tape, m.output, m.size, fun k hk => m.frame k hk (by simp)⟩

theorem Mem.drew {w0 w : World} {own : List Nat} {H : List Ch} (m : Mem w0 own H w) : Mem w0 own H { w with drawn := w.drawn + 1 } := ⟨m.os, m.tape, m.output, m.size, m.frame, m.sat, m.apart, m.mine⟩

/-- a change of one chunk, in its own blocks -/
theorem Mem.change {w0 w w' : World} {own : List Nat} {H : List Ch} (m : Mem w0 own H w) {i : Nat} {c c' : Ch} (hi : H[i]? = some c) (hk : ∀ b ∈ c'.keys, b ∈ c.keys ∨ w.heap.size ≤ b)
    (hos : w'.os = w.os) (htape : w'.tape = w.tape) (hout : w'.output = w.output) (hsize : w.heap.size ≤ w'.heap.size) (hfr : ∀ b, b < w.heap.size → b ∉ c.keys → w'.heap[b]? = w.heap[b]?) (hs : c'.sat (World.at w')) :
    Mem w0 own (H.set i c') w' := by
  have hlt : i < H.length := (List.getElem?_eq_some_iff.1 hi).1
  have hci : H[i] = c := (List.getElem?_eq_some_iff.1 hi).2
  have hcm : c ∈ H := hci ▸ List.getElem_mem hlt
  have disj : ∀ j (hj : j < H.length), j ≠ i → ∀ b ∈ H[j].keys, b ∉ c.keys := by
    intro j hj hne b hb hb'
    rcases Nat.lt_or_gt_of_ne hne with h | h
    · exact List.pairwise_iff_getElem.1 m.apart j i hj hlt h b hb (hci ▸ hb')
    · exact List.pairwise_iff_getElem.1 m.apart i j hlt hj h b (hci ▸ hb') hb
  have keyok : ∀ j (hj : j < H.length), j ≠ i → ∀ b ∈ H[j].keys, b ∉ c'.keys := by
    intro j hj hne b hb hb'
    rcases hk b hb' with h | h
    · exact disj j hj hne b hb h
    · exact absurd (m.key_lt (List.getElem_mem hj) hb) (by omega)
  refine ⟨hos.trans m.os, htape.trans m.tape, hout.trans m.output, Nat.le_trans m.size hsize, ?_, ?_, ?_, ?_⟩
  · intro b hb hbo
    rw [hfr b (Nat.lt_of_lt_of_le hb m.size) ?_, m.frame b hb hbo]
    intro hbk
    rcases m.mine c hcm b hbk with h | h
    · exact hbo h
    · omega
  · intro d hd
    obtain ⟨j, hj, rfl⟩ := List.getElem_of_mem hd
    simp only [List.length_set] at hj
    by_cases hij : i = j
    · subst hij; simpa using hs
    · rw [List.getElem_set_ne hij]
      have hne : j ≠ i := fun e => hij e.symm
      refine Ch.sat_of (m.sat _ (List.getElem_mem hj)) fun b hb => ?_
      exact hfr b (m.key_lt (List.getElem_mem hj) hb) (disj j hj hne b hb)
  · refine List.pairwise_iff_getElem.2 fun j k hj hk' hjk => ?_
    simp only [List.length_set] at hj hk'
    by_cases h1 : i = j
    · subst h1
      have h2 : i ≠ k := by omega
      rw [List.getElem_set_self, List.getElem_set_ne h2]
      exact fun b hb hb' => keyok k hk' (fun e => h2 e.symm) b hb' hb
    · rw [List.getElem_set_ne h1]
      by_cases h2 : i = k
      · subst h2; rw [List.getElem_set_self]; exact fun b hb hb' => keyok j hj (fun e => h1 e.symm) b hb hb'
      · rw [List.getElem_set_ne h2]; exact List.pairwise_iff_getElem.1 m.apart j k hj hk' hjk
  · intro d hd b hb
    obtain ⟨j, hj, rfl⟩ := List.getElem_of_mem hd
    simp only [List.length_set] at hj
    by_cases hij : i = j
    · subst hij
      rw [List.getElem_set_self] at hb
      rcases hk b hb with h | h
      · exact m.mine c hcm b h
      · exact .inr (Nat.le_trans m.size h)
    · rw [List.getElem_set_ne hij] at hb
      exact m.mine _ (List.getElem_mem hj) b hb

/-- a new chunk, in new blocks -/
theorem Mem.push {w0 w w' : World} {own : List Nat} {H : List Ch} (m : Mem w0 own H w) {c : Ch} (hk : ∀ b ∈ c.keys, w.heap.size ≤ b)
    (hos : w'.os = w.os) (htape : w'.tape = w.tape) (hout : w'.output = w.output) (hsize : w.heap.size ≤ w'.heap.size) (hfr : ∀ b, b < w.heap.size → w'.heap[b]? = w.heap[b]?) (hs : c.sat (World.at w')) :
    Mem w0 own (c :: H) w' := by
  refine ⟨hos.trans m.os, htape.trans m.tape, hout.trans m.output, Nat.le_trans m.size hsize, ?_, ?_, ?_, ?_⟩
  · intro b hb hbo; rw [hfr b (Nat.lt_of_lt_of_le hb m.size), m.frame b hb hbo]
  · intro d hd
    rcases List.mem_cons.1 hd with rfl | hd
    · exact hs
    · exact Ch.sat_of (m.sat d hd) fun b hb => hfr b (m.key_lt hd hb)
  · exact List.Pairwise.cons (fun d hd b hb hb' => absurd (m.key_lt hd hb') (by have := hk b hb; omega)) m.apart
  · intro d hd b hb
    rcases List.mem_cons.1 hd with rfl | hd
    · exact .inr (Nat.le_trans m.size (hk b hb))
    · exact m.mine d hd b hb

theorem Mem.alloc {w0 w : World} {own : List Nat} {H : List Ch} (m : Mem w0 own H w) (o : Obj) : Mem w0 own (.blk w.heap.size o :: H) (w.alloc o) :=
  m.push (c := .blk w.heap.size o) (by simp [Ch.keys]) rfl rfl rfl (by simp) (fun b hb => Go.RowKit.Below.heap_alloc _ _ _ hb) (by show (w.heap.push o)[w.heap.size]? = some o; simp)

/-- chosen chunks, in whatever order -/
def Picks : List Nat → List Ch → List Ch → Prop
  | [], _, H' => H' = []
  | i :: is, H, H' => ∃ c H'', H[i]? = some c ∧ H' = c :: H'' ∧ Picks is H H''

theorem Picks.mem : ∀ {is : List Nat} {H H' : List Ch}, Picks is H H' → ∀ c ∈ H', ∃ i ∈ is, H[i]? = some c
  | [], _, _, h, c, hc => by subst h; cases hc
  | i :: is, H, _, ⟨d, H'', h1, rfl, h2⟩, c, hc => by
    rcases List.mem_cons.1 hc with rfl | hc
    · exact ⟨i, by simp, h1⟩
    · obtain ⟨j, hj, e⟩ := h2.mem c hc; exact ⟨j, by simp [hj], e⟩

theorem Mem.pick {w0 w : World} {own : List Nat} {H H' : List Ch} (m : Mem w0 own H w) {is : List Nat} (hp : Picks is H H') (hn : is.Nodup) : Mem w0 own H' w := by
  have hm : ∀ c ∈ H', c ∈ H := fun c hc => by obtain ⟨i, _, h⟩ := hp.mem c hc; exact List.mem_of_getElem? h
  refine ⟨m.os, m.tape, m.output, m.size, m.frame, fun c hc => m.sat c (hm c hc), ?_, fun c hc => m.mine c (hm c hc)⟩
  clear hm
  induction is generalizing H' with
  | nil => cases hp; exact List.Pairwise.nil
  | cons i is ih =>
    obtain ⟨c, H'', h1, rfl, h2⟩ := hp
    obtain ⟨hi, hn'⟩ := List.nodup_cons.1 hn
    refine List.Pairwise.cons (fun d hd b hb hb' => ?_) (ih h2 hn')
    obtain ⟨j, hj, hjd⟩ := h2.mem d hd
    have hne : i ≠ j := fun e => hi (e ▸ hj)
    obtain ⟨hil, hie⟩ := List.getElem?_eq_some_iff.1 h1
    obtain ⟨hjl, hje⟩ := List.getElem?_eq_some_iff.1 hjd
    rcases Nat.lt_or_gt_of_ne hne with h | h
    · exact List.pairwise_iff_getElem.1 m.apart i j hil hjl h b (hie ▸ hb) (hje ▸ hb')
    · exact List.pairwise_iff_getElem.1 m.apart j i hjl hil h b (hje ▸ hb') (hie ▸ hb)

/-- behind a call that was handed the first chunks -/
theorem Mem.call {w0 w w' : World} {own own' : List Nat} {Hp Hr H' : List Ch} (m : Mem w0 own (Hp ++ Hr) w) (m' : Mem w own' H' w') (ho : ∀ b ∈ own', ∃ c ∈ Hp, b ∈ c.keys) : Mem w0 own (H' ++ Hr) w' := by
  have hp : ∀ c ∈ Hp, c ∈ Hp ++ Hr := fun c h => List.mem_append_left _ h
  have hr : ∀ c ∈ Hr, c ∈ Hp ++ Hr := fun c h => List.mem_append_right _ h
  have cross : ∀ c ∈ Hp, ∀ d ∈ Hr, ∀ b ∈ c.keys, b ∉ d.keys := fun c hc d hd => (List.pairwise_append.1 m.apart).2.2 c hc d hd
  have keep : ∀ d ∈ Hr, ∀ b ∈ d.keys, b ∉ own' := fun d hd b hb hbo => by
    obtain ⟨c, hc, hbc⟩ := ho b hbo
    exact cross c hc d hd b hbc hb
  refine ⟨m'.os.trans m.os, m'.tape.trans m.tape, m'.output.trans m.output, Nat.le_trans m.size m'.size, ?_, ?_, ?_, ?_⟩
  · intro b hb hbo
    rw [m'.frame b (Nat.lt_of_lt_of_le hb m.size) ?_, m.frame b hb hbo]
    intro hbo'
    obtain ⟨c, hc, hbc⟩ := ho b hbo'
    rcases m.mine c (hp c hc) b hbc with h | h
    · exact hbo h
    · omega
  · intro d hd
    rcases List.mem_append.1 hd with hd | hd
    · exact m'.sat d hd
    · refine Ch.sat_of (m.sat d (hr d hd)) fun b hb => ?_
      exact m'.frame b (m.key_lt (hr d hd) hb) (keep d hd b hb)
  · refine List.pairwise_append.2 ⟨m'.apart, (List.pairwise_append.1 m.apart).2.1, fun c hc d hd b hb hb' => ?_⟩
    rcases m'.mine c hc b hb with h | h
    · exact keep d hd b hb' h
    · exact absurd (m.key_lt (hr d hd) hb') (by omega)
  · intro d hd b hb
    rcases List.mem_append.1 hd with hd | hd
    · rcases m'.mine d hd b hb with h | h
      · obtain ⟨c, hc, hbc⟩ := ho b h
        exact m.mine c (hp c hc) b hbc
      · exact .inr (Nat.le_trans m.size h)
    · exact m.mine d (hr d hd) b hb

theorem Mem.call0 {w0 w w' : World} {own : List Nat} {H H' : List Ch} (m : Mem w0 own H w) (m' : Mem w [] H' w') : Mem w0 own (H' ++ H) w' :=
  Mem.call (Hp := []) m m' (fun _ h => by cases h)

/-! ### reading -/
theorem Mem.blk {w0 w : World} {own : List Nat} {H : List Ch} (m : Mem w0 own H w) {i b : Nat} {o : Obj} (hi : H[i]? = some (.blk b o)) : w.heap[b]? = some o :=
  m.sat _ (List.mem_of_getElem? hi)

theorem cell_of_heap {w : World} {b off : Nat} {cs : Array Value} {E : TypeId} {fz : Nat × Nat} (h : w.heap[b]? = some (.cells cs E fz)) : w.cell? ⟨b, off, none⟩ = cs[off]? := by
  simp [World.cell?, h]

/-- a slice of elements of sz cells reads so -/
def Rd (w : World) (ad : Option Addr) (n sz : Nat) (xs : List Value) : Prop :=
  xs.length = n * sz ∧ ∀ k x, xs[k]? = some x → ad.isSome = true ∧ w.cell? (adr ad k) = some x

theorem Rd.nil (w : World) (ad : Option Addr) (sz : Nat) : Rd w ad 0 sz [] := ⟨by simp, fun k x h => by simp at h⟩

theorem Mem.rd {w0 w : World} {own : List Nat} {H : List Ch} (m : Mem w0 own H w) {ad : Option Addr} {n sz : Nat} {xs : List Value} (h : Rd w0 ad n sz xs) (ho : xs ≠ [] → ∀ a, ad = some a → a.block ∉ own) : Rd w ad n sz xs := by
  refine ⟨h.1, fun k x hk => ⟨(h.2 k x hk).1, ?_⟩⟩
  have h1 := (h.2 k x hk).2
  rw [← h1]
  refine World.cell?_of_block (w := w0) (m.frame _ (World.block_lt_of_cell? _ _ h1) ?_)
  obtain ⟨a, rfl⟩ := Option.isSome_iff_exists.1 (h.2 k x hk).1
  simp only [adr, Option.getD_some, Addr.add_block]
  exact ho (by rintro rfl; simp at hk) a rfl

theorem Mem.rd0 {w0 w : World} {H : List Ch} (m : Mem w0 [] H w) {ad : Option Addr} {n sz : Nat} {xs : List Value} (h : Rd w0 ad n sz xs) : Rd w ad n sz xs := m.rd h fun _ _ _ => by simp

theorem Mem.rd_sl {w0 w : World} {own : List Nat} {H : List Ch} (m : Mem w0 own H w) {i : Nat} {ad : Option Addr} {n cap : Nat} {E : TypeId} {sz : Nat} {xs : List Value} (hi : H[i]? = some (.sl ad n cap E sz xs)) : Rd w ad n sz xs := by
  have hs := m.sat _ (List.mem_of_getElem? hi)
  cases ad with
  | none => obtain ⟨rfl, _, rfl⟩ := hs; exact Rd.nil _ _ _
  | some a =>
    cases cap with
    | zero => obtain ⟨rfl, _, rfl⟩ := hs; exact Rd.nil _ _ _
    | succ cap =>
    obtain ⟨h0, hsp, _, hl, rest, _, hb⟩ := hs
    refine ⟨hl, fun k x hk => ⟨rfl, ?_⟩⟩
    obtain ⟨ab, ao, as⟩ := a
    simp only at h0 hsp hb
    subst h0; subst hsp
    have hk' := (List.getElem?_eq_some_iff.1 hk)
    simp [adr, cell_of_heap hb, List.getElem?_append_left hk'.1, hk]

/-- a piece of a slice that reads so; m is what is left of its room behind l -/
def sub (ad : Option Addr) (m l : Nat) : Option Addr := if m = 0 then ad else ad.map (·.add l)
theorem Rd.sub {w : World} {ad : Option Addr} {n sz : Nat} {xs : List Value} (h : Rd w ad n sz xs) {l k m : Nat} (hlk : l + k ≤ n) (hm : k ≤ m) : Rd w (sub ad m (l * sz)) k sz ((xs.drop (l * sz)).take (k * sz)) := by
  have hle : l * sz + k * sz ≤ n * sz := by rw [← Nat.add_mul]; exact Nat.mul_le_mul_right _ hlk
  refine ⟨by rw [List.length_take, List.length_drop, h.1]; omega, fun j x hj => ?_⟩
  have hj' := (List.getElem?_eq_some_iff.1 hj).1
  rw [List.length_take] at hj'
  rw [List.getElem?_take, if_pos (by omega), List.getElem?_drop] at hj
  have h1 := h.2 _ _ hj
  have hm0 : m ≠ 0 := by
    rintro rfl
    have : k = 0 := by omega
    subst this; simp at hj'
  obtain ⟨a, rfl⟩ := Option.isSome_iff_exists.1 h1.1
  simp only [Go.Mc.sub, if_neg hm0, Option.map_some]
  refine ⟨rfl, ?_⟩
  rw [← h1.2]
  simp [adr, Addr.add_add]
/-- a piece of an array that is held -/
theorem Mem.rd_blk {w0 w : World} {own : List Nat} {H : List Ch} (m : Mem w0 own H w) {i b : Nat} {cs : Array Value} {E : TypeId} {fz : Nat × Nat} (hi : H[i]? = some (.blk b (.cells cs E fz))) {n sz : Nat} (hn : cs.size = n * sz) : Rd w (some ⟨b, 0, none⟩) n sz cs.toList :=
  ⟨by simpa using hn, fun k x hk => ⟨rfl, by simpa [adr, cell_of_heap (m.blk hi)] using hk⟩⟩
theorem Mem.nilsl {w0 w : World} {own : List Nat} {H : List Ch} (E sz : Nat) (m : Mem w0 own H w) : Mem w0 own (.sl none 0 0 E sz [] :: H) w :=
  m.push (c := .sl none 0 0 E sz []) (by simp [Ch.keys]) rfl rfl rfl (Nat.le_refl _) (fun _ _ => rfl) ⟨rfl, rfl, rfl⟩
theorem Mem.nil0 {w0 w : World} {own : List Nat} {H : List Ch} (ad : Option Addr) (E sz : Nat) (m : Mem w0 own H w) : Mem w0 own (.sl ad 0 0 E sz [] :: H) w :=
  m.push (c := .sl ad 0 0 E sz []) (by cases ad <;> simp [Ch.keys]) rfl rfl rfl (Nat.le_refl _) (fun _ _ => rfl) (by cases ad <;> exact ⟨rfl, rfl, rfl⟩)
theorem Mem.off {w0 w : World} {own : List Nat} {H : List Ch} (m : Mem w0 own H w) {i j : Nat} {c d : Ch} (hi : H[i]? = some c) (hj : H[j]? = some d) (hij : i ≠ j) : ∀ b ∈ c.keys, b ∉ d.keys := by
  obtain ⟨hil, hie⟩ := List.getElem?_eq_some_iff.1 hi
  obtain ⟨hjl, hje⟩ := List.getElem?_eq_some_iff.1 hj
  intro b hb hb'
  rcases Nat.lt_or_gt_of_ne hij with h | h
  · exact List.pairwise_iff_getElem.1 m.apart i j hil hjl h b (hie ▸ hb) (hje ▸ hb')
  · exact List.pairwise_iff_getElem.1 m.apart j i hjl hil h b (hje ▸ hb') (hie ▸ hb)
/-- an array's slice lies apart of another variable -/
theorem Mem.off_blk {w0 w : World} {own : List Nat} {H : List Ch} (m : Mem w0 own H w) {i j b b2 k : Nat} {o o2 : Obj} {p : Prop} (hi : H[i]? = some (.blk b o)) (hj : H[j]? = some (.blk b2 o2)) (hij : i ≠ j) : p → ∀ a, some (⟨b2, k, none⟩ : Addr) = some a → a.block ∉ [b] := by
  rintro _ _ ⟨⟩ h
  simp only [List.mem_singleton] at h
  exact m.off hj hi (Ne.symm hij) b2 (by simp [Ch.keys]) (by simp [Ch.keys, h])
/-- what was there at first lies apart of what is new -/
theorem Mem.off_ro {w0 w : World} {H : List Ch} (m : Mem w0 [] H w) {i b n sz : Nat} {o : Obj} {ad : Option Addr} {xs : List Value} (hi : H[i]? = some (.blk b o)) (h : Rd w0 ad n sz xs) : xs ≠ [] → ∀ a, ad = some a → a.block ∉ [b] := by
  rintro hne a rfl hb
  simp only [List.mem_singleton] at hb
  have hb0 := (m.mine _ (List.mem_of_getElem? hi) b (by simp [Ch.keys])).resolve_left (by simp)
  obtain ⟨x, xs, rfl⟩ := List.exists_cons_of_ne_nil hne
  have h1 := World.block_lt_of_cell? _ _ (h.2 0 x rfl).2
  simp only [adr, Option.getD_some, Addr.add_block] at h1
  omega
end Go.Mc
