/- Operations in an open order; strings; equality; literals. No condition. -/
import Derived.Test.YtjibkjoaamchoaaGreatDoorEEngB
import Derived.Laws.IdiomCopy
import Derived.Laws.IdiomStrings
import Derived.DeepKeys
import Derived.Laws.StructEq
import Derived.Laws.CopyRow
set_option linter.all false
namespace Go.Mc
theorem Mem.perm {w0 w : World} {own : List Nat} {H H' : List Ch} (h : H.Perm H') (m : Mem w0 own H w) : Mem w0 own H' w :=
  ⟨m.os, m.tape, m.output, m.size, m.frame, fun c hc => m.sat c (h.mem_iff.2 hc),
    (h.pairwise_iff (R := fun c d : Ch => ∀ b ∈ c.keys, b ∉ d.keys) (fun hxy b hb hb' => hxy b hb' hb)).1 m.apart, fun c hc => m.mine c (h.mem_iff.2 hc)⟩
theorem Mem.left {w0 w : World} {own : List Nat} {A B : List Ch} (m : Mem w0 own (A ++ B) w) : Mem w0 own A w :=
  ⟨m.os, m.tape, m.output, m.size, m.frame, fun c hc => m.sat c (List.mem_append_left _ hc), (List.pairwise_append.1 m.apart).1, fun c hc => m.mine c (List.mem_append_left _ hc)⟩

/-- what an operation makes up: a block, or an address and a room -/
abbrev Gh : Type := Nat × Option Addr × Nat
def upd (x : Nat → Gh) (i : Nat) (g : Gh) : Nat → Gh := fun j => if j = i then g else x j
theorem upd_ne {x : Nat → Gh} {i j : Nat} {g : Gh} (h : j ≠ i) : upd x i g j = x j := if_neg h

variable {F : Fence} {P : Program} {n : Nat} {D : List Deferred} {L : List (Nat × Value)} {M : World → Prop} {ops : Array Oper}

/-- an operation that makes new memory at most -/
def PEff (F : Fence) (P : Program) (o : Oper) (L : List (Nat × Value)) (M : World → Prop) (V : Gh → Value) (K : Gh → List Ch) : Prop :=
  Box (∀ w1, M w1 → Eff F P o L (fun w => w = w1) V (fun g w' => Mem w1 [] (K g) w'))

def Kof (K : Nat → (Nat → Gh) → List Ch) (S : List Nat) (x : Nat → Gh) : List Ch := S.flatMap fun i => K i x
def Lof (ops : Array Oper) (V : Nat → (Nat → Gh) → Value) (S : List Nat) (x : Nat → Gh) : List (Nat × Value) := S.filterMap fun i => ((ops[i]?).bind (·.dst)).map fun d => (d, V i x)

theorem agr_app {a : Act} {L0 : List (Nat × Value)} (h0 : Agr n L0 a) : ∀ {A : List (Nat × Value)}, (∀ p ∈ A, a.tmps[p.1]? = some p.2) → Agr n (A ++ L0) a := by
  intro A
  induction A with
  | nil => intro _; exact h0
  | cons p A ih =>
    intro h
    have ih' := ih fun q hq => h q (by simp [hq])
    refine ⟨h0.size, fun t v hv => ?_⟩
    obtain ⟨u, y⟩ := p
    by_cases e : u = t
    · subst e
      rw [List.cons_append, lk_cons_eq] at hv
      injection hv with hv; subst hv
      exact h (u, y) (by simp)
    · rw [List.cons_append, lk_cons_ne e] at hv
      exact ih'.at_ t v hv

theorem anyE_class {QN : Act → World → Prop} {C C' : World → Prop} (hs : ∀ w, C' w → C w) : ∀ (fuel : Nat) (listed : Array Bool) (a : Act) (w : World), anyE F P ops QN C' fuel listed a w → anyE F P ops QN C fuel listed a w
  | 0, _, _, _, h => h
  | fuel + 1, listed, a, w, h => ⟨h.1, fun i hi => opE_mono (Q := fun _ _ _ => False) (fun a' w' hk => by
      rcases hk with h1 | h1 | ⟨C2, h2, h3, h4⟩
      · exact .inl h1
      · exact .inr (.inl h1)
      · exact .inr (.inr ⟨C2, h2, fun w hw => hs w (h3 w hw), h4⟩)) (h.2 i hi)⟩

/-- the order among them, for the kernel -/
def parB (ops : Array Oper) (n : Nat) (par fl : List Nat) (ds : Nat → List Nat) (l0 : List Nat) : Bool :=
  par.all (fun i => decide (i < ops.size) && (match ops[i]? with
    | some o => o.guard.isNone && okDst o.dst n && (match o.dst with | some d => !l0.contains d | none => true) && o.after.all (fun e => !Region.binds .any e || (par.contains e.on && decide (e.on < i)))
    | none => false) && (ds i).all (fun j => par.contains j && reach ops ops.size i j) && decide (ds i).Nodup) &&
  decide par.Nodup && decide ((par.filterMap fun i => (ops[i]?).bind (·.dst)).Nodup) &&
  (List.range ops.size).all (fun k => par.contains k || par.all fun i => fl.contains i || reach ops ops.size k i) && fl.all (fun f => par.contains f && Region.free .any ops ((Array.range ops.size).map fun k => reach ops ops.size f k) f)

variable {Q : Exit → Act → World → Prop} {w0 : World} {own : List Nat}

theorem dst_ne {par : List Nat} {f : Nat → Option Tmp} (h : (par.filterMap f).Nodup) {i j : Nat} (hi : i ∈ par) (hj : j ∈ par) (hij : i ≠ j) {d : Tmp} (hd : f i = some d) : f j ≠ some d := by
  intro hd'
  induction par with
  | nil => cases hi
  | cons p par ih =>
    rw [List.filterMap_cons] at h
    rcases List.mem_cons.1 hi with rfl | hi' <;> rcases List.mem_cons.1 hj with rfl | hj'
    · exact hij rfl
    · rw [hd] at h
      exact (List.nodup_cons.1 h).1 (List.mem_filterMap.2 ⟨j, hj', hd'⟩)
    · rw [hd'] at h
      exact (List.nodup_cons.1 h).1 (List.mem_filterMap.2 ⟨i, hi', hd⟩)
    · refine ih ?_ hi' hj'
      cases hp : f p with
      | none => rw [hp] at h; exact h
      | some q => rw [hp] at h; exact (List.nodup_cons.1 h).2

set_option maxHeartbeats 1000000 in
theorem wc_par {id : Nat} {l : List Oper} {L0 : List (Nat × Value)} {H0 : List Ch} (par fl : List Nat) (ds : Nat → List Nat) (rest : List (Nat × PK)) (V : Nat → (Nat → Gh) → Value) (K : Nat → (Nat → Gh) → List Ch)
    [Wide F] (hm : P.follows .mixedOrders = true) (hp : (plainB l.toArray && parB l.toArray n par fl ds (L0.map (·.1)) && planB l.toArray rest (par.foldl (fun a i => a.setIfInBounds i true) (Array.replicate l.length false)) && par.length + rest.length == l.length) = true)
    (hop : ∀ i ∈ par, ∀ o, l.toArray[i]? = some o → ∀ x, PEff F P o (Lof l.toArray V (ds i) x ++ L0) (Mem w0 own (Kof K (ds i) x ++ H0)) (fun g => V i (upd x i g)) (fun g => K i (upd x i g)))
    (hfl : ∀ f ∈ fl, ∀ o, l.toArray[f]? = some o → ∀ x, Yld P o (Lof l.toArray V (ds f) x ++ L0) (fun _ => True) (V f x) ∧ K f x = [])
    (hloc : ∀ j ∈ par, ∀ x x', (∀ i ∈ j :: ds j, x i = x' i) → V j x = V j x' ∧ K j x = K j x')
    (h : ∀ x, WP F P l.toArray Q n D (fun _ => True) rest (Lof l.toArray V par x ++ L0) (Mem w0 own (Kof K par x ++ H0))) :
    WC F P Q n D (.region id l.toArray true) L0 (Mem w0 own H0) := by
  simp only [Bool.and_eq_true, beq_iff_eq] at hp
  obtain ⟨⟨⟨h1, h2⟩, h3⟩, h4⟩ := hp
  unfold parB at h2
  simp only [Bool.and_eq_true, decide_eq_true_eq, List.all_eq_true] at h2
  obtain ⟨⟨⟨⟨hA, hnd⟩, hdn⟩, hO⟩, hF⟩ := h2
  have spec : ∀ i ∈ par, ∃ o, l.toArray[i]? = some o ∧ o.guard = none ∧ okDst o.dst n = true ∧ (∀ d, o.dst = some d → d ∉ L0.map (·.1)) ∧ (∀ e ∈ o.after, Region.binds .any e = true → e.on ∈ par ∧ e.on < i) ∧ (∀ j ∈ ds i, j ∈ par ∧ reach l.toArray l.toArray.size i j = true) ∧ (ds i).Nodup := by
    intro i hi
    obtain ⟨⟨⟨hlt, hmt⟩, hd⟩, hdd⟩ := hA i hi
    cases ho : l.toArray[i]? with
    | none => rw [ho] at hmt; cases hmt
    | some o =>
      rw [ho] at hmt
      simp only [Bool.and_eq_true, Option.isNone_iff_eq_none] at hmt
      obtain ⟨⟨⟨g1, g2⟩, g3⟩, g4⟩ := hmt
      refine ⟨o, rfl, g1, g2, fun d hd' => ?_, fun e he hb => ?_, fun j hj => ?_, hdd⟩
      · rw [hd'] at g3; simpa using g3
      · have := (Array.all_eq_true_iff_forall_mem.1 g4) e he
        simp only [hb, Bool.not_true, Bool.false_or, Bool.and_eq_true, decide_eq_true_eq, List.contains_iff_mem] at this
        exact this
      · have := hd j hj
        simpa using this
  have hout : ∀ k, k < l.toArray.size → k ∉ par → ∀ i ∈ par, i ∉ fl → reach l.toArray l.toArray.size k i = true := by
    intro k hk hkp i hi hif
    have := hO k (List.mem_range.2 hk)
    simp only [Bool.or_eq_true, List.contains_iff_mem, List.all_eq_true] at this
    exact ((this.resolve_left hkp) i hi).resolve_left hif
  have hflp : ∀ f ∈ fl, f ∈ par ∧ Region.free .any l.toArray ((Array.range l.toArray.size).map fun k => reach l.toArray l.toArray.size f k) f = true := by
    intro f hf
    have := hF f hf
    simpa using this
  have full : ∀ S : List Nat, S.Nodup → (∀ i ∈ S, i ∈ par) → par.length ≤ S.length → ∀ i ∈ par, i ∈ S := by
    intro S hS hsub hlen i hi
    apply Classical.byContradiction
    intro hn
    have : (i :: S).length ≤ par.length := List.Nodup.length_le_of_subset (List.nodup_cons.2 ⟨hn, hS⟩) (fun j hj => by
      rcases List.mem_cons.1 hj with rfl | h
      · exact hi
      · exact hsub j h)
    simp at this; omega
  have key : ∀ (m : Nat) (S : List Nat) (listed : Array Bool) (a : Act) (w : World) (x : Nat → Gh), S.Nodup → (∀ i, i ∈ S ↔ listed.getD i false = true) → (∀ i ∈ S, i ∈ par) → lClosed l.toArray listed → S.length + m = par.length →
      (∀ i ∈ S, ∀ d, (l.toArray[i]?).bind (·.dst) = some d → a.tmps[d]? = some (V i x)) → Agr n L0 a → a.defers = D → Mem w0 own (Kof K S x ++ H0) w →
      anyE F P l.toArray (fun a w => Q .normal a w) (fun _ => True) (m + rest.length) listed a w := by
    intro m
    induction m with
    | zero =>
      intro S listed a w x hS hSl hsub hlc hlen htm hag hdf hmem
      have hpS := full S hS hsub (by omega)
      have hperm : S.Perm par := (List.perm_ext_iff_of_nodup hS hnd).2 fun i => ⟨hsub i, hpS i⟩
      have hcan : listed = par.foldl (fun a i => a.setIfInBounds i true) (Array.replicate l.length false) := by
        have fg : ∀ (p : List Nat) (arr : Array Bool), (p.foldl (fun a i => a.setIfInBounds i true) arr).size = arr.size ∧ ∀ k, k < arr.size → (p.foldl (fun a i => a.setIfInBounds i true) arr)[k]? = if k ∈ p then some true else arr[k]? := by
          intro p
          induction p with
          | nil => intro arr; exact ⟨rfl, fun k _ => by simp⟩
          | cons q p ih =>
            intro arr
            obtain ⟨i1, i2⟩ := ih (arr.setIfInBounds q true)
            refine ⟨by simpa using i1, fun k hk => ?_⟩
            rw [List.foldl_cons, i2 k (by simpa using hk)]
            by_cases hkp : k ∈ p
            · simp [hkp]
            · by_cases hkq : k = q
              · subst hkq; simp [hkp, hk]
              · simp only [hkp, if_false, List.mem_cons, hkq, or_self]
                rw [Array.getElem?_setIfInBounds_ne (fun e => hkq e.symm)]
        obtain ⟨f1, f2⟩ := fg par (Array.replicate l.length false)
        have hsz : listed.size = l.length := by rw [hlc.1]; simp
        apply Array.ext_getElem?
        intro k
        by_cases hk : k < l.length
        · rw [f2 k (by simpa using hk)]
          have hg : listed[k]? = some (listed.getD k false) := by simp [hsz, hk]
          rw [hg]
          by_cases hkp : k ∈ par
          · rw [if_pos hkp, (hSl k).1 (hpS k hkp)]
          · rw [if_neg hkp]
            have : ¬ (listed.getD k false = true) := fun h => hkp (hsub k ((hSl k).2 h))
            simp [this, hk]
        · rw [Array.getElem?_eq_none (by omega), Array.getElem?_eq_none (by rw [f1]; simp; omega)]
      have hst : St n (Lof l.toArray V par x ++ L0) D (Mem w0 own (Kof K par x ++ H0)) a w := by
        refine ⟨agr_app hag fun p hp => ?_, hdf, ?_⟩
        · obtain ⟨i, hi, he⟩ := List.mem_filterMap.1 hp
          obtain ⟨d, hd, rfl⟩ := Option.map_eq_some_iff.1 he
          exact htm i (hpS i hi) d hd
        · exact Mem.perm ((List.Perm.flatMap_right (fun i => K i x) hperm).append_right H0) hmem
      have := (h x).out h1 listed hlc (hcan ▸ h3) a w hst
      rw [Nat.zero_add]
      exact this
    | succ m ih =>
      intro S listed a w x hS hSl hsub hlc hlen htm hag hdf hmem
      have hne : ∀ p, p ∈ par → p ∉ S → Region.ready .any l.toArray listed ≠ [] := by
        intro p
        induction p using Nat.strongRecOn with
        | _ p ihp =>
          intro hp hpn
          obtain ⟨o, ho, _, _, _, hed, _, _⟩ := spec p hp
          by_cases hall : ∀ e ∈ o.after, Region.binds .any e = true → listed.getD e.on false = true
          · intro hr
            have : p ∈ Region.ready .any l.toArray listed := mem_ready.2 ⟨by
              have hlt : p < listed.size := by rw [hlc.1]; exact (Array.getElem?_eq_some_iff.1 ho).1
              have h5 : ¬ (listed.getD p false = true) := fun h => hpn ((hSl p).2 h)
              simpa [hlt] using h5, o, ho, hall⟩
            rw [hr] at this; cases this
          · simp only [Classical.not_forall] at hall
            obtain ⟨e, he, hb, hl⟩ := hall
            obtain ⟨q1, q2⟩ := hed e he hb
            exact ihp e.on q2 q1 fun h => hl ((hSl _).1 h)
      have hrne : Region.ready .any l.toArray listed ≠ [] := by
        apply Classical.byContradiction
        intro hcon
        have hcon' := Classical.not_not.1 hcon
        have : ∀ i ∈ par, i ∈ S := fun i hi => Classical.byContradiction fun hn => hne i hi hn hcon'
        have := List.Nodup.length_le_of_subset hnd this
        omega
      rw [Nat.add_right_comm]
      -- what holds when one more is listed
      have step : ∀ i o, i ∈ par → i ∉ S → l.toArray[i]? = some o → (∀ j ∈ ds i, j ∈ S) → i ∈ Region.ready .any l.toArray listed → ∀ (g : Gh) (w2 : World), Mem w0 own (K i (upd x i g) ++ (Kof K S x ++ H0)) w2 →
          anyE F P l.toArray (fun a w => Q .normal a w) (fun _ => True) (m + rest.length) (listed.setIfInBounds i true) (a.put o.dst (V i (upd x i g))) w2 := by
        intro i o hip hiS hoi hdS hi g w2 hm2
        have hilt : i < l.toArray.size := (Array.getElem?_eq_some_iff.1 hoi).1
        obtain ⟨o', ho', hgd, hok, hdL, hed, hdsi, hdn'⟩ := spec i hip
        obtain rfl : o = o' := Option.some.inj (hoi.symm.trans ho')
        have hdc : ∀ k ∈ S, ∀ q ∈ k :: ds k, upd x i g q = x q := by
          intro k hk q hq
          refine upd_ne fun e => hiS ?_
          subst e
          rcases List.mem_cons.1 hq with rfl | hq
          · exact hk
          · obtain ⟨ok, hok', _, _, _, _, hdk, _⟩ := spec k (hsub k hk)
            exact (hSl q).2 (reach_listed hlc _ _ _ ok hok' (fun e he hb => hlc.2 k ok hok' ((hSl k).1 hk) e he hb) (hdk q hq).2)
        refine ih (i :: S) (listed.setIfInBounds i true) _ w2 (upd x i g) (List.nodup_cons.2 ⟨hiS, hS⟩) (fun k => ?_) (fun k hk => ?_) (hlc.set hi) (by simp; omega) (fun k hk d hd => ?_) ?_ ?_ ?_
        · by_cases hki : i = k
          · subst hki
            have hlt : i < listed.size := by rw [hlc.1]; exact hilt
            simp [hlt]
          · rw [getD_set_ne false hki, ← hSl k]
            simp only [List.mem_cons]
            exact ⟨fun h => h.resolve_left (fun e => hki e.symm), .inr⟩
        · rcases List.mem_cons.1 hk with rfl | hk
          · exact hip
          · exact hsub k hk
        · rcases List.mem_cons.1 hk with rfl | hk
          · rw [hoi] at hd
            have hd' : o.dst = some d := hd
            have := (hag.putL o.dst hok (V k (upd x k g))).at_ d
            rw [hd'] at this ⊢
            exact this _ (lk_cons_eq ..)
          · have hVk := (hloc k (hsub k hk) (upd x i g) x (hdc k hk)).1
            rw [hVk]
            have h6 := htm k hk d hd
            cases hod : o.dst with
            | none => exact h6
            | some di =>
              have hne' : d ≠ di := by
                intro e; subst e
                have hki : k ≠ i := fun e => hiS (e ▸ hk)
                exact dst_ne hdn (hsub k hk) hip hki hd (by rw [hoi]; exact hod)
              show (a.tmps.setIfInBounds di _)[d]? = _
              rw [Array.getElem?_setIfInBounds_ne (fun e => hne' e.symm)]; exact h6
        · have h7 := hag.putL o.dst hok (V i (upd x i g))
          cases hod : o.dst with
          | none => rw [hod] at h7; exact h7
          | some di =>
            rw [hod] at h7
            refine ⟨h7.size, fun t v hv => h7.at_ t v ?_⟩
            have hnt : di ≠ t := by
              intro e; subst e
              refine hdL di hod ?_
              have : ∀ (L : List (Nat × Value)), lk L di = some v → di ∈ L.map (·.1) := by
                intro L
                induction L with
                | nil => intro h; simp [lk] at h
                | cons p L ihL =>
                  intro h
                  obtain ⟨u, y⟩ := p
                  by_cases e : u = di
                  · simp [e]
                  · rw [lk_cons_ne e] at h; simp [ihL h]
              exact this L0 hv
            show lk ((di, _) :: L0) t = some v
            rw [lk_cons_ne hnt]; exact hv
        · exact (put_defers _ _ _).trans hdf
        · have hKS : Kof K S (upd x i g) = Kof K S x := by
            unfold Kof
            rw [List.flatMap_def, List.flatMap_def]
            congr 1
            exact List.map_congr_left fun k hk => (hloc k (hsub k hk) (upd x i g) x (hdc k hk)).2
          have : Kof K (i :: S) (upd x i g) ++ H0 = K i (upd x i g) ++ (Kof K S x ++ H0) := by
            rw [← hKS]; simp [Kof]
          rw [this]
          exact hm2
      by_cases hfr : ∃ f, f ∈ fl ∧ f ∈ Region.ready .any l.toArray listed
      · obtain ⟨f, hff, hfrdy⟩ := hfr
        obtain ⟨hun, o, hoi, hall⟩ := mem_ready.1 hfrdy
        obtain ⟨hfp, hfree⟩ := hflp f hff
        have hilt : f < l.toArray.size := (Array.getElem?_eq_some_iff.1 hoi).1
        have hiS : f ∉ S := by
          intro h
          have h5 := (hSl f).1 h
          have hlt : f < listed.size := by rw [hlc.1]; exact hilt
          simp [hlt] at h5 hun; rw [h5] at hun; cases hun
        obtain ⟨o', ho', hgd, hok, hdL, hed, hdsi, hdn'⟩ := spec f hfp
        obtain rfl : o' = o := Option.some.inj (ho'.symm.trans hoi)
        have hdS : ∀ j ∈ ds f, j ∈ S := fun j hj => (hSl j).2 (reach_listed hlc _ _ _ o' hoi hall (hdsi j hj).2)
        have hagd : Agr n (Lof l.toArray V (ds f) x ++ L0) a := agr_app hag fun p hp => by
          obtain ⟨k, hk, he⟩ := List.mem_filterMap.1 hp
          obtain ⟨d, hd, rfl⟩ := Option.map_eq_some_iff.1 he
          exact htm k (hdS k hk) d hd
        have hwt : Region.wanted o' (yielded l.toArray a.tmps) = true := by unfold Region.wanted; rw [hgd]
        obtain ⟨hy, hK0⟩ := hfl f hff o' hoi x
        have hux : upd x f (x f) = x := by funext j; unfold upd; split <;> simp_all
        refine anyE_quiet (v := V f x) hoi (plainB_spec h1) _ (fun _ => True) listed a w (fun _ _ _ _ => trivial) hlc (fun j oj hj hne' hl he => Region.free_spec hoi hfree j oj hj hne' (by
            have hjl : j < l.toArray.size := (Array.getElem?_eq_some_iff.1 hj).1
            have hnr : reach l.toArray l.toArray.size f j = false := by
              cases hrr : reach l.toArray l.toArray.size f j with
              | false => rfl
              | true =>
                exfalso
                have := reach_listed hlc _ _ _ o' hoi hall hrr
                have hlt : j < listed.size := by rw [hlc.1]; exact hjl
                simp [hlt] at this hl; rw [hl] at this; cases this
            simp only [List.size_toArray] at hjl hnr ⊢
            simp [hjl, hnr]) he) hfrdy (.inl ⟨hwt, fun w' _ => by rw [hy.out a.eval w' hagd.ev trivial]; exact ⟨rfl, Ext.refl _⟩⟩) trivial fun w2 he => ?_
        have := step f o' hfp hiS hoi hdS hfrdy (x f) w2 (by rw [hux, hK0]; exact hmem.ext he)
        rwa [hux] at this
      refine ⟨fun hr => absurd hr hrne, fun i hi => ?_⟩
      obtain ⟨hun, oi, hoi, hall⟩ := mem_ready.1 hi
      have hilt : i < l.toArray.size := (Array.getElem?_eq_some_iff.1 hoi).1
      have hiS : i ∉ S := by
        intro h
        have h5 := (hSl i).1 h
        have hlt : i < listed.size := by rw [hlc.1]; exact hilt
        simp [hlt] at h5 hun; rw [h5] at hun; cases hun
      have hip : i ∈ par := by
        apply Classical.byContradiction
        intro hn
        have hq1 : ∀ q ∈ par, q ∉ fl → q ∈ S := fun q hq hqf => (hSl q).2 (reach_listed hlc _ _ _ oi hoi hall (hout i hilt hn q hq hqf))
        have hq2 : ∀ q, q ∈ par → q ∈ S := by
          intro q
          induction q using Nat.strongRecOn with
          | _ q ihq =>
            intro hq
            by_cases hqf : q ∈ fl
            · apply Classical.byContradiction
              intro hqS
              obtain ⟨o, ho, _, _, _, hed, _, _⟩ := spec q hq
              refine hfr ⟨q, hqf, mem_ready.2 ⟨?_, o, ho, fun e he hb => ?_⟩⟩
              · have hlt : q < listed.size := by rw [hlc.1]; exact (Array.getElem?_eq_some_iff.1 ho).1
                have h5 : ¬ (listed.getD q false = true) := fun h => hqS ((hSl q).2 h)
                simpa [hlt] using h5
              · obtain ⟨q1, q2⟩ := hed e he hb
                exact (hSl _).1 (ihq e.on q2 q1)
            · exact hq1 q hq hqf
        have := List.Nodup.length_le_of_subset hnd hq2
        omega
      obtain ⟨o, ho, hgd, hok, hdL, hed, hdsi, hdn'⟩ := spec i hip
      obtain rfl : o = oi := Option.some.inj (ho.symm.trans hoi)
      have hdS : ∀ j ∈ ds i, j ∈ S := fun j hj => (hSl j).2 (reach_listed hlc _ _ _ o ho hall (hdsi j hj).2)
      have hmd : Mem w0 own (Kof K (ds i) x ++ H0) w := by
        have hp1 : S.Perm (ds i ++ S.filter fun k => !(ds i).contains k) := by
          refine (List.perm_ext_iff_of_nodup hS ?_).2 fun k => ?_
          · refine List.nodup_append.2 ⟨hdn', hS.filter _, fun p hp q hq hpq => ?_⟩
            subst hpq
            have := (List.mem_filter.1 hq).2
            simp [hp] at this
          · simp only [List.mem_append, List.mem_filter, Bool.not_eq_true', List.contains_eq_mem, decide_eq_false_iff_not]
            constructor
            · intro hk
              by_cases hkd : k ∈ ds i
              · exact .inl hkd
              · exact .inr ⟨hk, hkd⟩
            · rintro (hk | hk)
              · exact hdS k hk
              · exact hk.1
        have hp2 : (Kof K S x ++ H0).Perm ((Kof K (ds i) x ++ H0) ++ Kof K (S.filter fun k => !(ds i).contains k) x) := by
          have e1 := (List.Perm.flatMap_right (fun i => K i x) hp1).append_right H0
          rw [List.flatMap_append] at e1
          refine e1.trans ?_
          rw [List.append_assoc, List.append_assoc]
          exact List.Perm.append_left _ List.perm_append_comm
        exact (Mem.perm hp2 hmem).left
      have hagd : Agr n (Lof l.toArray V (ds i) x ++ L0) a := agr_app hag fun p hp => by
        obtain ⟨k, hk, he⟩ := List.mem_filterMap.1 hp
        obtain ⟨d, hd, rfl⟩ := Option.map_eq_some_iff.1 he
        exact htm k (hdS k hk) d hd
      unfold opE wpOpIn
      have hwt : Region.wanted o (yielded l.toArray a.tmps) = true := by unfold Region.wanted; rw [hgd]
      simp only [hoi, hwt, if_true]
      refine ⟨fun f _ => Wide.fn f, ?_⟩
      rw [semAt_of (plainB_spec h1 i o hoi).2]
      refine Eff.upon (((hop i hip o hoi x).out w hmd).out a.eval w hagd.ev rfl) fun g w' hm' => .inr (.inr ⟨fun _ => True, fun _ _ _ _ => trivial, fun _ _ => trivial, trivial, fun w2 he => ?_⟩)
      exact step i o hip hiS hoi hdS hi g w2 ((hmem.call0 hm').ext he)
  refine .mk fun a w s => ?_
  refine wpIn_region_any hm (wpAnyIn_of_anyE _ (fun _ => True) _ _ _ ?_)
  have := key par.length [] (Array.replicate l.length false) a { w with drawn := w.drawn + 1 } (fun _ => (0, none, 0)) List.nodup_nil (fun i => by
      rcases Nat.lt_or_ge i l.length with h' | h'
      · simp [h']
      · simp [h']) (fun _ h => by cases h) ⟨by simp, fun j oj _ hl => by
    rcases Nat.lt_or_ge j l.length with h' | h'
    · simp [h'] at hl
    · simp [h'] at hl⟩ (by simp) (fun _ h => by cases h) s.agr s.dfr (by simpa [Kof] using s.mem.drew)
  rw [h4] at this
  simpa using this
end Go.Mc

namespace Go.Mc
variable {F : Fence} {P : Program} {n : Nat} {D : List Deferred} {L : List (Nat × Value)} {M : World → Prop}
variable {Q : Exit → Act → World → Prop} {w0 : World} {own : List Nat}
def AllP : List Nat → (Nat → Prop) → Prop
  | [], _ => True
  | i :: r, p => p i ∧ AllP r p
theorem AllP.mem : ∀ {l : List Nat} {p : Nat → Prop}, AllP l p → ∀ i ∈ l, p i
  | _ :: _, _, h, i, hi => by
    rcases List.mem_cons.1 hi with rfl | hi
    · exact h.1
    · exact h.2.mem i hi
abbrev dsL (dss : List (List Nat)) (i : Nat) : List Nat := dss.getD i []
abbrev vL (Vs : List ((Nat → Gh) → Value)) (i : Nat) (x : Nat → Gh) : Value := Vs.getD i (fun _ => undef) x
abbrev kL (Ks : List ((Nat → Gh) → List Ch)) (i : Nat) (x : Nat → Gh) : List Ch := Ks.getD i (fun _ => []) x
theorem wc_parL {id : Nat} {l : List Oper} {L0 : List (Nat × Value)} {H0 : List Ch} (par fl : List Nat) (dss : List (List Nat)) (rest : List (Nat × PK)) (Vs : List ((Nat → Gh) → Value)) (Ks : List ((Nat → Gh) → List Ch))
    [Wide F] (hm : P.follows .mixedOrders = true) (l0 : List Nat) (hl0 : L0.map (·.1) = l0) (hp : (plainB l.toArray && parB l.toArray n par fl (dsL dss) l0 && planB l.toArray rest (par.foldl (fun a i => a.setIfInBounds i true) (Array.replicate l.length false)) && par.length + rest.length == l.length) = true)
    (hop : AllP par fun i => ∃ o, l.toArray[i]? = some o ∧ ∀ x, PEff F P o (Lof l.toArray (vL Vs) (dsL dss i) x ++ L0) (Mem w0 own (Kof (kL Ks) (dsL dss i) x ++ H0)) (fun g => vL Vs i (upd x i g)) (fun g => kL Ks i (upd x i g)))
    (hfl : AllP fl fun f => ∃ o, l.toArray[f]? = some o ∧ ∀ x, Yld P o (Lof l.toArray (vL Vs) (dsL dss f) x ++ L0) (fun _ => True) (vL Vs f x) ∧ kL Ks f x = [])
    (hloc : AllP par fun j => ∀ x x', (∀ i ∈ j :: dsL dss j, x i = x' i) → vL Vs j x = vL Vs j x' ∧ kL Ks j x = kL Ks j x')
    (h : ∀ x, WP F P l.toArray Q n D (fun _ => True) rest (Lof l.toArray (vL Vs) par x ++ L0) (Mem w0 own (Kof (kL Ks) par x ++ H0))) :
    WC F P Q n D (.region id l.toArray true) L0 (Mem w0 own H0) :=
  wc_par par fl (dsL dss) rest (vL Vs) (kL Ks) hm (by rw [hl0]; exact hp) (fun i hi o ho x => by
    obtain ⟨o', ho', h'⟩ := hop.mem i hi
    obtain rfl : o' = o := Option.some.inj (ho'.symm.trans ho)
    exact h' x) (fun i hi o ho x => by
    obtain ⟨o', ho', h'⟩ := hfl.mem i hi
    obtain rfl : o' = o := Option.some.inj (ho'.symm.trans ho)
    exact h' x) (fun j hj => hloc.mem j hj) h
section
variable {d : Option Tmp} {ty : TypeId} {pos : String} {af : Array Edge} {g : Option (Nat × Bool)} {V : Gh → Value} {K : Gh → List Ch}
theorem pe_eff {α : Sort _} {V0 : α → Value} {K0 : α → List Ch} {o : Oper} (emb : α → Gh) (h : ∀ w1, Eff F P o L (Mem w1 [] []) V0 (fun y => Mem w1 [] (K0 y))) (hV : ∀ y, V (emb y) = V0 y) (hK : ∀ y, K (emb y) = K0 y) : PEff F P o L M V K := .mk fun w1 _ => .mk fun ρ w he hw => by
  subst hw
  have h0 := (h w).out ρ w he (Mem.refl w)
  have mono : ∀ e w', Ret V0 (fun y => Mem w [] (K0 y)) e w' → Ret V (fun g w' => Mem w [] (K g) w') e w' := fun e w' ⟨y, h1, h2⟩ => ⟨emb y, by rw [h1, hV], (show Mem w [] (K (emb y)) w' from (hK y).symm ▸ h2)⟩
  generalize (execOp ρ o).run P w = r at *
  cases r with
  | ok x w' =>
    cases x <;> simp only [effUpon] at h0 ⊢
    case value v => obtain ⟨y, h1, h2⟩ := h0; exact ⟨emb y, by rw [h1, hV], (show Mem w [] (K (emb y)) w' from (hK y).symm ▸ h2)⟩
    case skip => obtain ⟨y, h1, h2⟩ := h0; exact ⟨emb y, by rw [hV, h1], (show Mem w [] (K (emb y)) w' from (hK y).symm ▸ h2)⟩
    case enter f args => exact CallsIn.mono h0 mono
    case round l f tmps assign body => exact RoundIn.mono h0 mono
  | halt x w' => simp only [effUpon] at h0
theorem pe_y {o : Oper} {v : Value} (h : Yld P o L M v) (hV : ∀ g, V g = v) (hK : ∀ g, K g = []) : PEff F P o L M V K := .mk fun w1 hM => .mk fun ρ w he hw => by
  subst hw
  rw [h.out ρ w he hM]
  exact ⟨(0, none, 0), (hV _).symm, (show Mem w [] (K (0, none, 0)) w from (hK _).symm ▸ Mem.refl w)⟩
theorem y_re {o : Oper} {v v' : Value} (e : v = v') (h : Yld P o L M v) : Yld P o L M v' := e ▸ h
theorem pe_call [Wide F] {α : Sort _} {V0 : α → Value} {K0 : α → List Ch} {f : FuncId} {args : Array Operand} {tys : Array TypeId} {vs : List Value} (emb : α → Gh) (hf : cfB P f = true) (ha : evs L args.toList = some vs)
    (hc : ∀ w, M w → Calls P f vs.toArray w (Ret V0 (fun y => Mem w [] (K0 y)))) (hV : ∀ y, V (emb y) = V0 y) (hK : ∀ y, K (emb y) = K0 y) :
    PEff F P ⟨d, .call ⟨.value (.func f), args, tys⟩, ty, pos, af, g⟩ L M V K := .mk fun w1 hM => by
  refine e_call hf ha fun w e => ?_
  subst e
  exact (hc w hM).mono fun e w' ⟨y, h1, h2⟩ => ⟨emb y, by rw [h1, hV], (show Mem w [] (K (emb y)) w' from (hK y).symm ▸ h2)⟩
end
theorem Mem.sl_le {w0 w : World} {own : List Nat} {H : List Ch} (m : Mem w0 own H w) {i : Nat} {ad : Option Addr} {n cap : Nat} {E : TypeId} {sz : Nat} {xs : List Value} (hi : H[i]? = some (.sl ad n cap E sz xs)) : n ≤ cap := by
  have hs := m.sat _ (List.mem_of_getElem? hi)
  cases ad with
  | none => obtain ⟨rfl, rfl, _⟩ := hs; exact Nat.le_refl _
  | some a =>
    cases cap with
    | zero => obtain ⟨rfl, _, _⟩ := hs; exact Nat.le_refl _
    | succ cap => exact hs.2.2.1
theorem Mem.rd_arrn {α : Type} {f : α → Value} {w0 w : World} {own : List Nat} {H : List Ch} {xs : List α} (m : Mem w0 own H w) {i b : Nat} {E : TypeId} {fz : Nat × Nat} (hi : H[i]? = some (.blk b (.cells (arr f xs) E fz))) {n : Nat} (hn : xs.length = n) : Rd w (some ⟨b, 0, none⟩) n 1 (xs.map f) :=
  hn ▸ m.rd_arr hi
theorem wc_re {c : Code} {t : Tmp} {v v' : Value} (hb : lk L t = some v) (e : v = v') (k : WC F P Q n D c ((t, v') :: L) M) : WC F P Q n D c L M := by
  subst e
  exact .mk fun a w s => k.out a w ⟨⟨s.agr.size, fun u x hu => by
    by_cases e' : t = u
    · subst e'; rw [lk_cons_eq] at hu; injection hu with hu; subst hu; exact s.agr.at_ _ _ hb
    · rw [lk_cons_ne e'] at hu; exact s.agr.at_ _ _ hu⟩, s.dfr, s.mem⟩
theorem y_slice_slo {d : Option Tmp} {ty : TypeId} {pos : String} {af : Array Edge} {g : Option (Nat × Bool)} {t e : TypeId} {x : Operand} {lo hi mx : Option Operand} {ad : Option Addr} {len cap sz : Nat} (ht : slB P t e = true) (hs : szB P e sz = true) (hx : ev L x = some (.slice ad len cap)) (m h l o : Nat) (hm : obnd L mx cap m) (hh : obnd L hi len h) (hl : obnd L lo 0 l)
    (hmx : mx.isSome = true → hi.isSome = true) (b1 : m ≤ cap) (b2 : h ≤ m) (b3 : l ≤ h) (ho : l * sz = o) : Yld P ⟨d, .slice t x lo hi mx, ty, pos, af, g⟩ L M (.slice (sub ad (m - l) o) (h - l) (m - l)) := by
  subst ho; exact y_slice_sl ht hs hx m h l hm hh hl hmx b1 b2 b3
end Go.Mc

namespace Go.Mc
section
variable {P : Program} {L : List (Nat × Value)} {M : World → Prop} {d : Option Tmp} {ty : TypeId} {pos : String} {af : Array Edge} {g : Option (Nat × Bool)}
theorem y_neg {t : TypeId} {x : Operand} {m : Int} (h : ev L x = some (ki m)) (h1 : -9223372036854775808 < m) (h2 : m ≤ 9223372036854775807) : Yld P ⟨d, .unOp .neg t x, ty, pos, af, g⟩ L M (ki (-m)) := .mk fun ρ w he _ => by
  have e : IntKind.i64.wrap (-m) = -m := by rw [wrap_i64 (by omega) (by omega)]
  simp [execOp, he _ _ h, Op.unary, Op.intArith, e]
theorem y_compl32 {t : TypeId} {x : Operand} {m : UInt32} (h : ev L x = some (w32 m)) : Yld P ⟨d, .unOp .xor t x, ty, pos, af, g⟩ L M (w32 (~~~ m)) := .mk fun ρ w he _ => by
  have e := xor_u32 (4294967295 : UInt32) m
  have e2 : (4294967295 : UInt32) ^^^ m = ~~~ m := by
    apply UInt32.toBitVec_inj.1
    simp only [UInt32.toBitVec_xor, UInt32.toBitVec_not]
    show (BitVec.allOnes 32) ^^^ m.toBitVec = _
    exact BitVec.allOnes_xor
  rw [e2] at e
  have hm : (IntKind.u32).max = 4294967295 := by decide
  have hb : bin .xor (.int .u32 4294967295) (w32 m) = some (w32 (~~~ m)) := e
  simp only [bin, if_true, Option.some.injEq] at hb
  simp only [execOp, he _ _ h, Op.unary]
  simp [Op.intBits, hm, IntKind.signed] at hb ⊢
  exact hb
theorem Mem.right {w0 w : World} {own : List Nat} {A B : List Ch} (m : Mem w0 own (A ++ B) w) : Mem w0 own B w := m.swap.left
end
theorem upd_setRow {w : World} {g : Nat} {cur cs : Array Value} {t : TypeId} {fr : Nat × Nat} (hg : w.heap[g]? = some (.cells cur t fr)) : Upd w (w.setRow g cs) g (.cells cs t fr) := by
  refine ⟨rfl, rfl, rfl, by simp [World.setRow], ?_, fun k hk => ?_⟩
  · simp only [World.setRow, Array.getElem?_modify, if_true]
    rw [hg]; rfl
  · simp only [World.setRow, Array.getElem?_modify]
    rw [if_neg (fun e => hk e.symm)]
theorem set_same {H : List Ch} {i : Nat} {c : Ch} (hi : H[i]? = some c) : H.set i c = H := by
  apply List.ext_getElem?
  intro k
  rw [List.getElem?_set]
  split
  · rename_i hk; subst hk; split
    · exact hi.symm
    · rename_i h'; rw [List.getElem?_eq_none (by omega)]
  · rfl
section
variable {P : Program} {F : Fence} {L : List (Nat × Value)} {d : Option Tmp} {ty : TypeId} {pos : String} {af : Array Edge} {g : Option (Nat × Bool)} {w0 : World} {own : List Nat} {H : List Ch} {α : Type} {f : α → Value} [One f]
theorem take_eq_nil_of {n : Nat} {l : List α} (h : n = 0) : l.take n = [] := by subst h; rfl
theorem e_copy_blk {t E Eb : TypeId} {x y : Operand} {i b n cap m c : Nat} {a : Option Addr} {l news : List α} {tys : Array TypeId} {H' : List Ch} (ht : slB P t E = true) (hE : szB P E 1 = true) (htys : tys = #[t, t]) (hx : ev L x = some (.slice (some ⟨b, 0, none⟩) n cap)) (hy : ev L y = some (.slice a m c))
    (hi : H[i]? = some (.blk b (.cells (arr f l) Eb (0, 0)))) (hn : n ≤ l.length) (hr : ∀ w, Mem w0 own H w → Rd w a m 1 (news.map f)) (hH : SetAt H i (.blk b (.cells (arr f (news.take (min m n) ++ l.drop (min m n))) Eb (0, 0))) H') :
    Eff F P ⟨d, .call ⟨.builtin .copy, #[x, y], tys⟩, ty, pos, af, g⟩ L (Mem w0 own H) (fun _ : Unit => ki ((min m n : Nat) : Int)) (fun _ => Mem w0 own H') := eff_mk fun ρ w he mm => by
  subst htys
  have hb := mm.blk hi
  have hrd := hr w mm
  have hlen : news.length = m := by simpa using hrd.1
  have hu : P.underlying t = some (.slice E) := und_sl ht
  have hs : (P.info? E).map (·.size) = some 1 := by
    unfold szB at hE
    split at hE
    · rename_i k hk; rw [hk]; simpa using hE
    · cases hE
  have e1 := he _ _ hx
  have e2 := he _ _ hy
  by_cases h0 : min m n = 0
  · refine ⟨(), w, .inl ?_, ?_⟩
    · have := run_copy_none w t t ty E (some ⟨b, 0, none⟩) a n cap m c hu hs h0
      simp [execOp, resolve, invoke, builtin, e1, e2, this, h0, goInt]
    · rw [hH.eq, h0, List.take_zero, List.drop_zero, List.nil_append, set_same hi]; exact mm
  · have h0' : m ≠ 0 := by omega
    have hne : (news.map f)[0]? = some (f (news[0]'(by omega))) := by rw [List.getElem?_map, List.getElem?_eq_getElem (by omega)]; rfl
    obtain ⟨q, rfl⟩ := Option.isSome_iff_exists.1 (hrd.2 0 _ hne).1
    have hcl : ((news.take (min m n)).map f).length = Nat.min m n := by simp; show _ = min m n; omega
    have hrun := run_copy_row P w t t ty E b 0 n cap q m c (arr f l) Eb ((news.take (min m n)).map f) hu hs hb hcl
      (fun j v hj => by
        rw [List.getElem?_map, List.getElem?_take] at hj
        split at hj
        · exact (hrd.2 j v (by rw [List.getElem?_map]; exact hj)).2
        · cases hj)
      (by rw [hcl]; simp; exact Nat.le_trans (Nat.min_le_right _ _) hn)
      (fun v hv => by obtain ⟨z, _, rfl⟩ := List.mem_map.1 hv; exact One.one z)
    have e3 : ((arr f l).toList.take 0 ++ (news.take (min m n)).map f ++ (arr f l).toList.drop (0 + ((news.take (min m n)).map f).length)).toArray = arr f (news.take (min m n) ++ l.drop (min m n)) := by
      rw [hcl]
      show _ = ((news.take (min m n) ++ l.drop (min m n)).map f).toArray
      simp [List.map_append, List.map_drop]
    rw [e3] at hrun
    refine ⟨(), w.setRow b (arr f (news.take (min m n) ++ l.drop (min m n))), .inl ?_, ?_⟩
    · have h9 : min m (min n news.length) = min m n := by omega
      simp [execOp, resolve, invoke, builtin, e1, e2, hrun, goInt, h9]
    · rw [hH.eq]; exact mm.upd hi (upd_setRow hb)
theorem e_copy_sl {t E Es : TypeId} {x y : Operand} {i n cap m c : Nat} {ad a : Option Addr} {l news : List α} {tys : Array TypeId} {H' : List Ch} (ht : slB P t E = true) (hE : szB P E 1 = true) (htys : tys = #[t, t]) (hx : ev L x = some (.slice ad n cap)) (hy : ev L y = some (.slice a m c))
    (hi : H[i]? = some (.sl ad n cap Es 1 (l.map f))) (hr : ∀ w, Mem w0 own H w → Rd w a m 1 (news.map f)) (hH : SetAt H i (.sl ad n cap Es 1 ((news.take (min m n) ++ l.drop (min m n)).map f)) H') :
    Eff F P ⟨d, .call ⟨.builtin .copy, #[x, y], tys⟩, ty, pos, af, g⟩ L (Mem w0 own H) (fun _ : Unit => ki ((min m n : Nat) : Int)) (fun _ => Mem w0 own H') := eff_mk fun ρ w he mm => by
  subst htys
  have hsat := mm.sat _ (List.mem_of_getElem? hi)
  have hrd := hr w mm
  have hlen : news.length = m := by simpa using hrd.1
  have hu : P.underlying t = some (.slice E) := und_sl ht
  have hs : (P.info? E).map (·.size) = some 1 := by
    unfold szB at hE
    split at hE
    · rename_i k hk; rw [hk]; simpa using hE
    · cases hE
  have e1 := he _ _ hx
  have e2 := he _ _ hy
  have none_ : min m n = 0 → ∃ (u_ : Unit) (w' : World), ((execOp ρ ⟨d, .call ⟨.builtin .copy, #[x, y], #[t, t]⟩, ty, pos, af, g⟩).run P w = .ok (.value (ki ((min m n : Nat) : Int))) w' ∨ ((execOp ρ ⟨d, .call ⟨.builtin .copy, #[x, y], #[t, t]⟩, ty, pos, af, g⟩).run P w = .ok .skip w' ∧ ki ((min m n : Nat) : Int) = undef)) ∧ Mem w0 own H' w' := fun h0 => by
    refine ⟨(), w, .inl ?_, ?_⟩
    · have := run_copy_none w t t ty E ad a n cap m c hu hs h0
      simp [execOp, resolve, invoke, builtin, e1, e2, this, h0, goInt]
    · rw [hH.eq, h0, List.take_zero, List.drop_zero, List.nil_append, set_same hi]; exact mm
  by_cases h0 : min m n = 0
  · exact none_ h0
  · cases ad with
    | none => obtain ⟨rfl, _, _⟩ := hsat; omega
    | some q =>
      cases cap with
      | zero => obtain ⟨rfl, _, _⟩ := hsat; omega
      | succ cap =>
        obtain ⟨h00, hsp, hkc, hll, rest, hrest, hb⟩ := hsat
        obtain ⟨qb, qo, qs⟩ := q
        simp only at h00 hsp hb; subst h00; subst hsp
        have hln : l.length = n := by simpa using hll
        have hne : (news.map f)[0]? = some (f (news[0]'(by omega))) := by rw [List.getElem?_map, List.getElem?_eq_getElem (by omega)]; rfl
        obtain ⟨q, rfl⟩ := Option.isSome_iff_exists.1 (hrd.2 0 _ hne).1
        have hcl : ((news.take (min m n)).map f).length = Nat.min m n := by simp; show _ = min m n; omega
        have hrun := run_copy_row P w t t ty E qb 0 n (cap + 1) q m c (l.map f ++ rest).toArray Es ((news.take (min m n)).map f) hu hs hb hcl
          (fun j v hj => by
            rw [List.getElem?_map, List.getElem?_take] at hj
            split at hj
            · exact (hrd.2 j v (by rw [List.getElem?_map]; exact hj)).2
            · cases hj)
          (by rw [hcl]; simp; have : Nat.min m n ≤ n := Nat.min_le_right _ _; omega)
          (fun v hv => by obtain ⟨z, _, rfl⟩ := List.mem_map.1 hv; exact One.one z)
        refine ⟨(), w.setRow qb (((news.take (min m n) ++ l.drop (min m n)).map f ++ rest)).toArray, .inl ?_, ?_⟩
        · have e3 : ((l.map f ++ rest).toArray.toList.take 0 ++ (news.take (min m n)).map f ++ (l.map f ++ rest).toArray.toList.drop (0 + ((news.take (min m n)).map f).length)).toArray = (((news.take (min m n) ++ l.drop (min m n)).map f ++ rest)).toArray := by
            rw [hcl]
            have hmn : Nat.min m n ≤ (l.map f).length := by simp [hln]; exact Nat.min_le_right _ _
            simp only [List.take_zero, List.nil_append, Nat.zero_add, List.map_append, List.append_assoc]
            rw [List.drop_append_of_le_length hmn, List.map_drop]
          rw [e3] at hrun
          have h9 : min m (min n news.length) = min m n := by omega
          simp [execOp, resolve, invoke, builtin, e1, e2, hrun, goInt, h9]
        · rw [hH.eq]
          have hu2 := upd_setRow (cs := (((news.take (min m n) ++ l.drop (min m n)).map f ++ rest)).toArray) hb
          refine mm.change hi (fun b hb' => .inl (by simpa [Ch.keys] using hb')) hu2.os hu2.tape hu2.output (by rw [hu2.size]; exact Nat.le_refl _) (fun b _ hbn => hu2.rest b (by simpa [Ch.keys] using hbn)) ?_
          refine ⟨rfl, rfl, hkc, ?_, rest, ?_, hu2.blk⟩
          · simp [hln, hlen]; omega
          · simp [hln, hlen] at hrest ⊢; omega
theorem e_makeBlk {t E : TypeId} {x y : Operand} {bytes : Nat} {z : Value} {kl kc : IntKind} {i j : Int} (l c : Nat) (ht : slB P t E = true) (hE : elB P E 1 bytes z) (hzs : z.cells = #[z]) (hx : ev L x = some (.int kl i)) (hy : ev L y = some (.int kc j)) (hi : i = (l : Int)) (hj : j = (c : Int))
    (hlc : l ≤ c) (hb : bytes * c ≤ 281474976710656) (hc : c ≤ 9223372036854775807) :
    Eff F P ⟨d, .makeSlice t x y, ty, pos, af, g⟩ L (Mem w0 own H) (fun b : Nat => .slice (some ⟨b, 0, none⟩) l c) (fun b => Mem w0 own (.blk b (.cells (List.replicate c z).toArray E (0, 0)) :: H)) := eff_mk fun ρ w he m => by
  obtain ⟨ti, hti, hs1, hs2, hz⟩ := hE
  subst hs2; subst hi; subst hj
  have hb' : (ti.bytes : Int) * (c : Int) ≤ 281474976710656 := by
    have h : ((ti.bytes * c : Nat) : Int) ≤ 281474976710656 := by omega
    rwa [Int.natCast_mul] at h
  have hr := run_make (P := P) w t E ti z (und_sl ht) hti hz kl kc l c (by omega) (by omega) hb' (by omega)
  simp only [Int.toNat_natCast, hs1, Nat.mul_one] at hr
  have hm : madeCells z.cells c = (List.replicate c z).toArray := by
    rw [hzs]
    apply Array.ext
    · simp [madeCells]
    · intro k h1 h2
      simp [madeCells, Nat.mod_one]
  rw [hm] at hr
  exact ⟨w.heap.size, w.alloc (.cells (List.replicate c z).toArray E), .inl (by simp [execOp, he _ _ hx, he _ _ hy, hr]), m.alloc _⟩
theorem e_makeBlkm {t E : TypeId} {x y : Operand} {bytes : Nat} {zv : Value} {z : α} {kl kc : IntKind} {i j : Int} (l c : Nat) (ht : slB P t E = true) (hE : elB P E 1 bytes zv) (hzv : zv = f z) (hx : ev L x = some (.int kl i)) (hy : ev L y = some (.int kc j)) (hi : i = (l : Int)) (hj : j = (c : Int))
    (hlc : l ≤ c) (hb : bytes * c ≤ 281474976710656) (hc : c ≤ 9223372036854775807) :
    Eff F P ⟨d, .makeSlice t x y, ty, pos, af, g⟩ L (Mem w0 own H) (fun b : Nat => .slice (some ⟨b, 0, none⟩) l c) (fun b => Mem w0 own (.blk b (.cells (arr f (List.replicate c z)) E (0, 0)) :: H)) := by
  have hz1 : zv.cells = #[zv] := by
    subst hzv
    have := One.one (f := f) z
    cases h : f z <;> first | rfl | (rw [h] at this; simp [Value.oneCell'] at this)
  have := e_makeBlk (F := F) (P := P) (d := d) (ty := ty) (pos := pos) (af := af) (g := g) (w0 := w0) (own := own) (H := H) l c ht hE hz1 hx hy hi hj hlc hb hc
  rw [show arr f (List.replicate c z) = (List.replicate c zv).toArray by simp [arr, hzv]]
  exact this
/-- memory that is only read, by a plain address -/
theorem c_rop {b n k : Nat} {xs : List α} {x : α} (h : ∀ w, Mem w0 own H w → Rd w (some ⟨b, 0, none⟩) n 1 (xs.map f)) (hk : xs[k]? = some x) : ∀ w, Mem w0 own H w → w.cell? ⟨b, k, none⟩ = some (f x) := fun w m => by
  have h1 := (h w m).2 k (f x) (by rw [List.getElem?_map, hk]; rfl)
  have h2 := h1.2
  rwa [adr, Option.getD_some, Addr.add_mk, Nat.zero_add] at h2
end
section
variable {F : Fence} {P : Program} {n : Nat} {D : List Deferred} {L : List (Nat × Value)} {M : World → Prop} {Q : Exit → Act → World → Prop}
/-- a loop whose next round begins -/
def LoopHd (F : Fence) (P : Program) (Q : Exit → Act → World → Prop) (c : Code) (a : Act) (w : World) : Prop :=
  ∀ (b : Frame) (k : List Item) (cs : List Frame), b.roundOf = F.round → F.fn b.fn → F.room (cs.length + 1 + 0) →
    ∃ e a' w', Q e a' w' ∧ ArrivesIn (Machine.fenced P F) P (lone (b.atR a (.code c :: .inLoop c :: k)) cs w) b k cs e a' w'
/-- what holds at the head of a round -/
def WH (F : Fence) (P : Program) (Q : Exit → Act → World → Prop) (n : Nat) (D : List Deferred) (c : Code) (L : List (Nat × Value)) (M : World → Prop) : Prop :=
  Box (∀ a w, St n L D M a w → LoopHd F P Q c a w)
theorem wc_unroll {c : Code} (h : WH F P Q n D c L M) : WC F P Q n D (.loop c) L M := .mk fun a w s b k cs hro hb hr => by
  obtain ⟨e, a', w', hq, harr⟩ := h.out a w s b k cs hro hb hr
  exact ⟨e, a', w', hq, .of_steps (.one (fenced_calm hb hr rfl) stepR_loop) harr⟩
/-- one round -/
theorem wh_round {c : Code} (h : WC F P (Exit.then (LoopHd F P Q c) Q) n D c L M) : WH F P Q n D c L M := .mk fun a w s b k cs hro hb hr => by
  obtain ⟨e, a₁, w₁, hq, harr⟩ := h.out a w s b (.inLoop c :: k) cs hro hb hr
  cases e with
  | normal =>
    obtain ⟨e₂, a₂, w₂, hq₂, harr₂⟩ := hq b k cs hro hb hr
    exact ⟨e₂, a₂, w₂, hq₂, .of_steps (StepsIn.trans harr (.one (fenced_calm hb hr rfl) stepR_inLoop)) harr₂⟩
  | exit id => exact ⟨_, a₁, w₁, hq, .pass (x := .inLoop c) rfl (fun _ _ => .inl (by simp)) harr⟩
  | goto l => exact ⟨_, a₁, w₁, hq, .pass (x := .inLoop c) rfl (fun _ _ => .inl (by simp)) harr⟩
  | ret => exact ⟨_, a₁, w₁, hq, .pass (x := .inLoop c) rfl (fun _ _ => .inl (by simp)) harr⟩
  | panic ch => exact ⟨_, a₁, w₁, hq, .pass (x := .inLoop c) rfl (fun _ _ => .inl (by simp)) harr⟩
  | outgrown => exact ⟨_, a₁, w₁, hq, .pass (x := .inLoop c) rfl (fun _ _ => .inl (by simp)) harr⟩
theorem aq_again {c : Code} (h : WH F P Q n D c L M) : AQ (Exit.then (LoopHd F P Q c) Q) .normal n D L M := .mk fun a w s => h.out a w s
theorem wh_mem {M' : World → Prop} {c : Code} (hM : ∀ w, M w → M' w) (h : WH F P Q n D c L M') : WH F P Q n D c L M := .mk fun a w s => h.out a w ⟨s.agr, s.dfr, hM _ s.mem⟩
end
end Go.Mc

namespace Go.Mc
/-- bytes as a string -/
def bs (l : List UInt8) : ByteArray := ⟨l.toArray⟩
@[simp] theorem bs_size (l : List UInt8) : (bs l).size = l.length := by simp [bs, ByteArray.size]
theorem bs_app (a b : List UInt8) : bs a ++ bs b = bs (a ++ b) := by
  apply ByteArray.ext
  simp [bs, ByteArray.data_append]
section
variable {P : Program} {F : Fence} {L : List (Nat × Value)} {M : World → Prop} {d : Option Tmp} {ty : TypeId} {pos : String} {af : Array Edge} {g : Option (Nat × Bool)} {w0 : World} {own : List Nat} {H : List Ch}
theorem y_len_str {t : TypeId} {x : Operand} {tys : Array TypeId} {l : List UInt8} {m : Nat} (ht : P.underlying t = some .string) (hx : ev L x = some (.string (bs l))) (htys : tys[0]? = some t) (hm : l.length = m) : Yld P ⟨d, .call ⟨.builtin .len, #[x], tys⟩, ty, pos, af, g⟩ L M (ki (m : Int)) := .mk fun ρ w he _ => by
  simp [execOp, resolve, invoke, builtin, Builtin.len_, he _ _ hx, htys, run_under ht, goInt, hm]
theorem y_add_str {t t' : TypeId} {x y : Operand} {a b : List UInt8} (hx : ev L x = some (.string (bs a))) (hy : ev L y = some (.string (bs b))) (hl : a.length + b.length ≤ 9223372036854775807) : Yld P ⟨d, .binOp .add t x y t', ty, pos, af, g⟩ L M (.string (bs (a ++ b))) := .mk fun ρ w he _ => by
  have h1 := he _ _ hx
  have h2 := he _ _ hy
  have hmax : IntKind.i64.max = 9223372036854775807 := by decide
  have hg : (eqGuard .add t x y (.string (bs a)) (.string (bs b))).run P w = .ok () w := rfl
  simp only [execOp, h1, h2, Sem.run_bind, hg, Result.andThen_ok]
  simp [binOp, Op.stringOp, hmax, bs_app]
  omega
theorem y_cv_str {s t : TypeId} {x : Operand} {l : List UInt8} (hs : (P.underlying s).isSome = true) (ht : P.underlying t = some .string) (hx : ev L x = some (.string (bs l))) : Yld P ⟨d, .convert s t x, ty, pos, af, g⟩ L M (.string (bs l)) := .mk fun ρ w he _ => by
  obtain ⟨ds, hs⟩ := Option.isSome_iff_exists.1 hs
  simp [execOp, he _ _ hx, convert, underlying, hs, ht]
/-- []byte(s) -/
theorem e_conv_str {s t E : TypeId} {x : Operand} {l : List UInt8} {n : Nat} (hs : P.underlying s = some .string) (ht : slB P t E = true) (hE : P.underlying E = some (.int .u8)) (hx : ev L x = some (.string (bs l))) (hn : l.length = n) :
    Eff F P ⟨d, .convert s t x, ty, pos, af, g⟩ L (Mem w0 own H) (fun r : Nat × Nat × Nat => .slice (some ⟨r.1, 0, none⟩) n r.2.1) (fun r => Mem w0 own (.blk r.1 (.cells (arr b8 (l ++ List.replicate (r.2.1 - n) 0)) E (r.2.2, r.2.2 + 1)) :: H)) := eff_mk fun ρ w he m => by
  have hr := run_bytes_of_string w s t E (bs l) hs (und_sl ht) hE
  have hrow : bytesRow (bs l) (grownCap w (bs l).size 0 E) = arr b8 (l ++ List.replicate (grownCap w (bs l).size 0 E - n) 0) := by
    have h0 : (bs l).data = l.toArray := rfl
    unfold bytesRow
    rw [h0, bs_size, hn]
    apply Array.toList_inj.1
    simp [arr]
  rw [hrow] at hr
  refine ⟨(w.heap.size, grownCap w (bs l).size 0 E, (arr b8 (l ++ List.replicate (grownCap w (bs l).size 0 E - n) 0)).size), w.drew.alloc (.cells (arr b8 (l ++ List.replicate (grownCap w (bs l).size 0 E - n) 0)) E ((arr b8 (l ++ List.replicate (grownCap w (bs l).size 0 E - n) 0)).size, (arr b8 (l ++ List.replicate (grownCap w (bs l).size 0 E - n) 0)).size + 1)), .inl ?_, ?_⟩
  · simp only [execOp, he _ _ hx, Sem.run_bind, hr]
    simp [hn]
  · exact (m.drew).alloc _
theorem Mem.rd_pre {α : Type} {f : α → Value} {w : World} (m : Mem w0 own H w) {i b n : Nat} {xs ys : List α} {E : TypeId} {fz : Nat × Nat} (hi : H[i]? = some (.blk b (.cells (arr f (xs ++ ys)) E fz))) (hn : xs.length = n) : Rd w (some ⟨b, 0, none⟩) n 1 (xs.map f) := by
  have h := m.rd_arrl hi 0 n (by simp; omega)
  rw [List.drop_zero, List.take_append_of_le_length (by omega), List.take_of_length_le (by omega)] at h
  exact h
/-- an array that is held, as a slice's row -/
theorem Mem.blk_sl {α : Type} {f : α → Value} {w : World} {b n : Nat} {xs : List α} {E : TypeId} (hn : xs.length = n) (h0 : 0 < n) (m : Mem w0 own (.blk b (.cells (arr f xs) E (0, 0)) :: H) w) : Mem w0 own (.sl (some ⟨b, 0, none⟩) n n E 1 (xs.map f) :: H) w := by
  obtain ⟨k, rfl⟩ := Nat.exists_eq_succ_of_ne_zero (show n ≠ 0 by omega)
  have hap := List.pairwise_cons.1 m.apart
  refine ⟨m.os, m.tape, m.output, m.size, m.frame, fun c hc => ?_, List.pairwise_cons.2 ⟨fun c hc b' hb' => hap.1 c hc b' (by simpa [Ch.keys] using hb'), hap.2⟩, fun c hc b' hb' => ?_⟩
  · rcases List.mem_cons.1 hc with rfl | hc
    · have h1 := m.blk (i := 0) rfl
      refine ⟨rfl, rfl, Nat.le_refl _, by simp [hn], [], by simp [hn], ?_⟩
      simpa [World.at, arr] using h1
    · exact m.sat c (List.mem_cons_of_mem _ hc)
  · rcases List.mem_cons.1 hc with rfl | hc
    · exact m.mine _ (List.mem_cons_self ..) b' (by simpa [Ch.keys] using hb')
    · exact m.mine c (List.mem_cons_of_mem _ hc) b' hb'
end
end Go.Mc

namespace Go.Mc
/-- a plan with forks -/
inductive PT where
  | nil
  | st (i : Nat) (k : PK) (t : PT)
  | f2 (i j : Nat) (ti tj : PT)
  | f3 (i j k : Nat) (ti tj tk : PT)
def PT.size : PT → Nat
  | .nil => 0
  | .st _ _ t => t.size + 1
  | .f2 _ _ ti _ => ti.size + 1
  | .f3 _ _ _ ti _ _ => ti.size + 1
def PT.isNil : PT → Bool
  | .nil => true
  | _ => false
def planT (ops : Array Oper) : PT → Array Bool → Bool
  | .nil, listed => (Region.ready .any ops listed).isEmpty
  | .st i .q r, listed => (Region.ready .any ops listed).contains i && Region.free .any ops listed i && planT ops r (listed.setIfInBounds i true)
  | .st i .e r, listed => decide (Region.ready .any ops listed = [i]) && planT ops r (listed.setIfInBounds i true)
  | .st i .b r, listed => decide (Region.ready .any ops listed = [i]) && barB ops listed i && planT ops r (listed.setIfInBounds i true)
  | .st i .l r, listed => decide (Region.ready .any ops listed = [i]) && lastB ops i && r.isNil && (Region.ready .any ops (listed.setIfInBounds i true)).isEmpty
  | .f2 i j ti tj, listed => decide (Region.ready .any ops listed = [i, j]) && planT ops ti (listed.setIfInBounds i true) && planT ops tj (listed.setIfInBounds j true) && ti.size == tj.size
  | .f3 i j k ti tj tk, listed => decide (Region.ready .any ops listed = [i, j, k]) && planT ops ti (listed.setIfInBounds i true) && planT ops tj (listed.setIfInBounds j true) && planT ops tk (listed.setIfInBounds k true) && ti.size == tj.size && ti.size == tk.size
variable {F : Fence} {P : Program} {n : Nat} {D : List Deferred} {L : List (Nat × Value)} {M : World → Prop} {ops : Array Oper}
/-- what is left of the plan, from the state (L, M), the class C kept -/
def WT (F : Fence) (P : Program) (ops : Array Oper) (Q : Exit → Act → World → Prop) (n : Nat) (D : List Deferred) (C : World → Prop) (plan : PT) (L : List (Nat × Value)) (M : World → Prop) : Prop :=
  Box (plainB ops = true → ∀ listed, lClosed ops listed → planT ops plan listed = true → ∀ a w, St n L D M a w → anyE F P ops (fun a w => Q .normal a w) C plan.size listed a w)

variable {Q : Exit → Act → World → Prop} {C : World → Prop} {plan : PT}
theorem wc_drawT {id : Nat} {l : List Oper} (plan : PT) (hm : P.follows .mixedOrders = true) (hp : (plainB l.toArray && planT l.toArray plan (Array.replicate l.length false) && plan.size == l.length) = true) (hcl : Closed M)
    (h : WT F P l.toArray Q n D M plan L M) : WC F P Q n D (.region id l.toArray true) L M := by
  simp only [Bool.and_eq_true, beq_iff_eq] at hp
  obtain ⟨⟨h1, h2⟩, h3⟩ := hp
  refine .mk fun a w s => ?_
  refine wpIn_region_any hm (wpAnyIn_of_anyE _ M _ _ _ ?_)
  have := h.out h1 (Array.replicate l.length false) ⟨by simp, fun j oj _ hl => by
    rcases Nat.lt_or_ge j l.length with h' | h'
    · simp [h'] at hl
    · simp [h'] at hl⟩ h2 a { w with drawn := w.drawn + 1 } ⟨s.agr, s.dfr, hcl _ _ s.mem ⟨rfl, rfl, rfl, Nat.le_refl _, fun _ _ => rfl⟩⟩
  rw [h3] at this
  simpa using this
theorem wt_nil (h : AQ Q .normal n D L M) : WT F P ops Q n D C .nil L M := by
  refine .mk fun _ listed _ hp a w s => ?_
  exact ⟨by simpa [planT] using hp, h.out a w s⟩

/-- quiet: by a value in every world of the class -/
theorem wt_q [Wide F] {i : Nat} {o : Oper} {v : Value} (hi : ops[i]? = some o) (hC : Closed C) (hMC : ∀ w, M w → C w) (hM : Closed M) (hd : okDst o.dst n = true)
    (hy : Qt F P o n L C v) (hg : GOn ops L o.guard) (k : WT F P ops Q n D C plan (putL o.dst v L) M) : WT F P ops Q n D C (.st i .q plan) L M := by
  refine .mk fun hpl listed hlc hp a w s => ?_
  simp only [planT, Bool.and_eq_true] at hp
  obtain ⟨⟨h1, h2⟩, h3⟩ := hp
  have hr : i ∈ Region.ready .any ops listed := by simpa using h1
  exact anyE_quiet hi (plainB_spec hpl) plan.size C listed a w hC hlc (Region.free_spec hi h2) hr (.inl ⟨wanted_on s.agr hg, fun w' hw' => hy.out a w' s.agr hw'⟩) (hMC _ s.mem)
    fun w2 he => k.out hpl _ (hlc.set hr) h3 _ w2 ⟨s.agr.putL _ hd _, (put_defers _ _ _).trans s.dfr, hM _ _ s.mem he⟩
theorem wt_off [Wide F] {i : Nat} {o : Oper} (hi : ops[i]? = some o) (hC : Closed C) (hMC : ∀ w, M w → C w) (hM : Closed M) (hd : okDst o.dst n = true)
    (hg : GOff ops L o.guard) (k : WT F P ops Q n D C plan (putL o.dst undef L) M) : WT F P ops Q n D C (.st i .q plan) L M := by
  refine .mk fun hpl listed hlc hp a w s => ?_
  simp only [planT, Bool.and_eq_true] at hp
  obtain ⟨⟨h1, h2⟩, h3⟩ := hp
  have hr : i ∈ Region.ready .any ops listed := by simpa using h1
  exact anyE_quiet hi (plainB_spec hpl) plan.size C listed a w hC hlc (Region.free_spec hi h2) hr (.inr ⟨wanted_off s.agr hg, rfl⟩) (hMC _ s.mem)
    fun w2 he => k.out hpl _ (hlc.set hr) h3 _ w2 ⟨s.agr.putL _ hd _, (put_defers _ _ _).trans s.dfr, hM _ _ s.mem he⟩
/-- an effect, alone ready -/
theorem wt_e [Wide F] {i : Nat} {o : Oper} {α : Sort _} {V : α → Value} {M' : α → World → Prop} (C' : α → World → Prop) (hi : ops[i]? = some o) (hd : okDst o.dst n = true) (hn : isDefer o.op = false) (h : Eff F P o L M V M') (hg : GOn ops L o.guard)
    (hc : ∀ x, Closed (C' x)) (hs : ∀ x w, C' x w → C w) (hMC : ∀ x w, M' x w → C' x w) (hM : ∀ x, Closed (M' x))
    (k : ∀ x, WT F P ops Q n D (C' x) plan (putL o.dst (V x) L) (M' x)) : WT F P ops Q n D C (.st i .e plan) L M := by
  refine .mk fun hpl listed hlc hp a w s => ?_
  simp only [planT, Bool.and_eq_true, decide_eq_true_eq] at hp
  obtain ⟨h1, h3⟩ := hp
  have hr : i ∈ Region.ready .any ops listed := by rw [h1]; simp
  refine ⟨fun h => (by rw [h1] at h; cases h), fun j hj => ?_⟩
  rw [h1] at hj
  obtain rfl : j = i := by simpa using hj
  unfold opE wpOpIn
  simp only [hi, wanted_on s.agr hg, if_true]
  refine ⟨fun f _ => Wide.fn f, ?_⟩
  rw [semAt_of hn]
  exact Eff.upon (h.out a.eval w s.agr.ev s.mem) fun x w' hm => .inr (.inr ⟨C' x, hc x, hs x, hMC x _ hm, fun w2 he => (k x).out hpl _ (hlc.set hr) h3 _ w2 ⟨s.agr.putL _ hd _, (put_defers _ _ _).trans s.dfr, hM x _ _ hm he⟩⟩)
/-- an effect behind all the others that were taken -/
theorem wt_b [Wide F] {i : Nat} {o : Oper} {α : Sort _} {V : α → Value} {M' : α → World → Prop} (hi : ops[i]? = some o) (hd : okDst o.dst n = true) (hn : isDefer o.op = false) (h : Eff F P o L M V M') (hg : GOn ops L o.guard)
    (hM : ∀ x, Closed (M' x)) (k : ∀ x, WT F P ops Q n D (M' x) plan (putL o.dst (V x) L) (M' x)) : WT F P ops Q n D C (.st i .b plan) L M := by
  refine .mk fun hpl listed hlc hp a w s => ?_
  simp only [planT, Bool.and_eq_true, decide_eq_true_eq] at hp
  obtain ⟨⟨h1, h2⟩, h3⟩ := hp
  have hr : i ∈ Region.ready .any ops listed := by rw [h1]; simp
  refine ⟨fun h => (by rw [h1] at h; cases h), fun j hj => ?_⟩
  rw [h1] at hj
  obtain rfl : j = i := by simpa using hj
  unfold opE wpOpIn
  simp only [hi, wanted_on s.agr hg, if_true]
  refine ⟨fun f _ => Wide.fn f, ?_⟩
  rw [semAt_of hn]
  exact Eff.upon (h.out a.eval w s.agr.ev s.mem) fun x w' hm => .inr (.inl ⟨h2, M' x, hM x, hm, fun w2 he => (k x).out hpl _ (hlc.set hr) h3 _ w2 ⟨s.agr.putL _ hd _, (put_defers _ _ _).trans s.dfr, hM x _ _ hm he⟩⟩)
/-- the last one -/
theorem wt_l [Wide F] {i : Nat} {o : Oper} {α : Sort _} {V : α → Value} {M' : α → World → Prop} (hi : ops[i]? = some o) (hd : okDst o.dst n = true) (hn : isDefer o.op = false) (h : Eff F P o L M V M') (hg : GOn ops L o.guard)
    (k : ∀ x, AQ Q .normal n D (putL o.dst (V x) L) (M' x)) : WT F P ops Q n D C (.st i .l .nil) L M := by
  refine .mk fun hpl listed hlc hp a w s => ?_
  simp only [planT, Bool.and_eq_true, decide_eq_true_eq] at hp
  obtain ⟨⟨⟨h1, h2⟩, _⟩, h4⟩ := hp
  refine ⟨fun h => (by rw [h1] at h; cases h), fun j hj => ?_⟩
  rw [h1] at hj
  obtain rfl : j = i := by simpa using hj
  unfold opE wpOpIn
  simp only [hi, wanted_on s.agr hg, if_true]
  refine ⟨fun f _ => Wide.fn f, ?_⟩
  rw [semAt_of hn]
  exact Eff.upon (h.out a.eval w s.agr.ev s.mem) fun x w' hm => .inl ⟨h2, by simpa using h4, (k x).out _ _ ⟨s.agr.putL _ hd _, (put_defers _ _ _).trans s.dfr, hm⟩⟩
/-- by a bool -/
theorem wt_bool {t : Tmp} {b : Bool} (hb : lk L t = some (.bool b)) (ht : b = true → WT F P ops Q n D C plan ((t, .bool true) :: L) M) (hf : b = false → WT F P ops Q n D C plan ((t, .bool false) :: L) M) : WT F P ops Q n D C plan L M := by
  refine .mk fun hpl listed hlc hp a w s => ?_
  have key : ∀ c, b = c → St n ((t, .bool c) :: L) D M a w := fun c e => ⟨⟨s.agr.size, fun u v hu => by
    by_cases e' : t = u
    · subst e'; rw [lk_cons_eq] at hu; injection hu with hu; subst hu; subst e; exact s.agr.at_ _ _ hb
    · rw [lk_cons_ne e'] at hu; exact s.agr.at_ _ _ hu⟩, s.dfr, s.mem⟩
  cases b with
  | true => exact (ht rfl).out hpl listed hlc hp a w (key true rfl)
  | false => exact (hf rfl).out hpl listed hlc hp a w (key false rfl)
theorem wt_re {t : Tmp} {v v' : Value} (hb : lk L t = some v) (e : v = v') (k : WT F P ops Q n D C plan ((t, v') :: L) M) : WT F P ops Q n D C plan L M := by
  subst e
  exact .mk fun hpl listed hlc hp a w s => k.out hpl listed hlc hp a w ⟨⟨s.agr.size, fun u x hu => by
    by_cases e' : t = u
    · subst e'; rw [lk_cons_eq] at hu; injection hu with hu; subst hu; exact s.agr.at_ _ _ hb
    · rw [lk_cons_ne e'] at hu; exact s.agr.at_ _ _ hu⟩, s.dfr, s.mem⟩
theorem wt_mem {M' : World → Prop} (hM : ∀ w, M w → M' w) (h : WT F P ops Q n D C plan L M') : WT F P ops Q n D C plan L M := .mk fun hpl listed hlc hp a w s => h.out hpl listed hlc hp a w ⟨s.agr, s.dfr, hM _ s.mem⟩
theorem wt_f2 [Wide F] {p : Nat} {tp : PT} {op : Oper} {αp : Sort _} {Vp : αp → Value} {Mp : αp → World → Prop} {q : Nat} {tq : PT} {oq : Oper} {αq : Sort _} {Vq : αq → Value} {Mq : αq → World → Prop} (hp : ops[p]? = some op) (hdp : okDst op.dst n = true) (hnp : isDefer op.op = false) (hep : Eff F P op L M Vp Mp) (hgp : GOn ops L op.guard) (hMCp : ∀ x w, Mp x w → C w) (hMp : ∀ x, Closed (Mp x)) (hq : ops[q]? = some oq) (hdq : okDst oq.dst n = true) (hnq : isDefer oq.op = false) (heq : Eff F P oq L M Vq Mq) (hgq : GOn ops L oq.guard) (hMCq : ∀ x w, Mq x w → C w) (hMq : ∀ x, Closed (Mq x)) (hC : Closed C) 
    (kp : ∀ x, WT F P ops Q n D C tp (putL op.dst (Vp x) L) (Mp x)) (kq : ∀ x, WT F P ops Q n D C tq (putL oq.dst (Vq x) L) (Mq x)) : WT F P ops Q n D C (.f2 p q tp tq) L M := by
  refine .mk fun hpl listed hlc hp a w s => ?_
  simp only [planT, Bool.and_eq_true, decide_eq_true_eq, beq_iff_eq] at hp
  obtain ⟨⟨⟨h1, hpp⟩, hpq⟩, hsz⟩ := hp
  have hrp : p ∈ Region.ready .any ops listed := by rw [h1]; simp
  have hrq : q ∈ Region.ready .any ops listed := by rw [h1]; simp
  refine ⟨fun h => (by rw [h1] at h; cases h), fun z hz => ?_⟩
  rw [h1] at hz
  simp only [List.mem_cons, List.not_mem_nil, or_false] at hz
  rcases hz with rfl | rfl
  · unfold opE wpOpIn
    simp only [hp, wanted_on s.agr hgp, if_true]
    refine ⟨fun f _ => Wide.fn f, ?_⟩
    rw [semAt_of hnp]
    exact Eff.upon (hep.out a.eval w s.agr.ev s.mem) fun x w' hm => .inr (.inr ⟨C, hC, fun _ h => h, hMCp x _ hm, fun w2 he => (kp x).out hpl _ (hlc.set hrp) hpp _ w2 ⟨s.agr.putL _ hdp _, (put_defers _ _ _).trans s.dfr, hMp x _ _ hm he⟩⟩)
  · unfold opE wpOpIn
    simp only [hq, wanted_on s.agr hgq, if_true]
    refine ⟨fun f _ => Wide.fn f, ?_⟩
    rw [semAt_of hnq]
    simp only [PT.size, hsz]
    exact Eff.upon (heq.out a.eval w s.agr.ev s.mem) fun x w' hm => .inr (.inr ⟨C, hC, fun _ h => h, hMCq x _ hm, fun w2 he => (kq x).out hpl _ (hlc.set hrq) hpq _ w2 ⟨s.agr.putL _ hdq _, (put_defers _ _ _).trans s.dfr, hMq x _ _ hm he⟩⟩)
theorem wt_f3 [Wide F] {p : Nat} {tp : PT} {op : Oper} {αp : Sort _} {Vp : αp → Value} {Mp : αp → World → Prop} {q : Nat} {tq : PT} {oq : Oper} {αq : Sort _} {Vq : αq → Value} {Mq : αq → World → Prop} {r : Nat} {tr : PT} {or : Oper} {αr : Sort _} {Vr : αr → Value} {Mr : αr → World → Prop} (hp : ops[p]? = some op) (hdp : okDst op.dst n = true) (hnp : isDefer op.op = false) (hep : Eff F P op L M Vp Mp) (hgp : GOn ops L op.guard) (hMCp : ∀ x w, Mp x w → C w) (hMp : ∀ x, Closed (Mp x)) (hq : ops[q]? = some oq) (hdq : okDst oq.dst n = true) (hnq : isDefer oq.op = false) (heq : Eff F P oq L M Vq Mq) (hgq : GOn ops L oq.guard) (hMCq : ∀ x w, Mq x w → C w) (hMq : ∀ x, Closed (Mq x)) (hr : ops[r]? = some or) (hdr : okDst or.dst n = true) (hnr : isDefer or.op = false) (her : Eff F P or L M Vr Mr) (hgr : GOn ops L or.guard) (hMCr : ∀ x w, Mr x w → C w) (hMr : ∀ x, Closed (Mr x)) (hC : Closed C) 
    (kp : ∀ x, WT F P ops Q n D C tp (putL op.dst (Vp x) L) (Mp x)) (kq : ∀ x, WT F P ops Q n D C tq (putL oq.dst (Vq x) L) (Mq x)) (kr : ∀ x, WT F P ops Q n D C tr (putL or.dst (Vr x) L) (Mr x)) : WT F P ops Q n D C (.f3 p q r tp tq tr) L M := by
  refine .mk fun hpl listed hlc hp a w s => ?_
  simp only [planT, Bool.and_eq_true, decide_eq_true_eq, beq_iff_eq] at hp
  obtain ⟨⟨⟨⟨⟨h1, hpp⟩, hpq⟩, hpr⟩, hsz⟩, hsz2⟩ := hp
  have hrp : p ∈ Region.ready .any ops listed := by rw [h1]; simp
  have hrq : q ∈ Region.ready .any ops listed := by rw [h1]; simp
  have hrr : r ∈ Region.ready .any ops listed := by rw [h1]; simp
  refine ⟨fun h => (by rw [h1] at h; cases h), fun z hz => ?_⟩
  rw [h1] at hz
  simp only [List.mem_cons, List.not_mem_nil, or_false] at hz
  rcases hz with rfl | rfl | rfl
  · unfold opE wpOpIn
    simp only [hp, wanted_on s.agr hgp, if_true]
    refine ⟨fun f _ => Wide.fn f, ?_⟩
    rw [semAt_of hnp]
    exact Eff.upon (hep.out a.eval w s.agr.ev s.mem) fun x w' hm => .inr (.inr ⟨C, hC, fun _ h => h, hMCp x _ hm, fun w2 he => (kp x).out hpl _ (hlc.set hrp) hpp _ w2 ⟨s.agr.putL _ hdp _, (put_defers _ _ _).trans s.dfr, hMp x _ _ hm he⟩⟩)
  · unfold opE wpOpIn
    simp only [hq, wanted_on s.agr hgq, if_true]
    refine ⟨fun f _ => Wide.fn f, ?_⟩
    rw [semAt_of hnq]
    simp only [PT.size, hsz]
    exact Eff.upon (heq.out a.eval w s.agr.ev s.mem) fun x w' hm => .inr (.inr ⟨C, hC, fun _ h => h, hMCq x _ hm, fun w2 he => (kq x).out hpl _ (hlc.set hrq) hpq _ w2 ⟨s.agr.putL _ hdq _, (put_defers _ _ _).trans s.dfr, hMq x _ _ hm he⟩⟩)
  · unfold opE wpOpIn
    simp only [hr, wanted_on s.agr hgr, if_true]
    refine ⟨fun f _ => Wide.fn f, ?_⟩
    rw [semAt_of hnr]
    simp only [PT.size, hsz2]
    exact Eff.upon (her.out a.eval w s.agr.ev s.mem) fun x w' hm => .inr (.inr ⟨C, hC, fun _ h => h, hMCr x _ hm, fun w2 he => (kr x).out hpl _ (hlc.set hrr) hpr _ w2 ⟨s.agr.putL _ hdr _, (put_defers _ _ _).trans s.dfr, hMr x _ _ hm he⟩⟩)
theorem wc_drawTC {id : Nat} {l : List Oper} (plan : PT) (C : World → Prop) (hm : P.follows .mixedOrders = true) (hp : (plainB l.toArray && planT l.toArray plan (Array.replicate l.length false) && plan.size == l.length) = true) (hcl : Closed M)
    (h : WT F P l.toArray Q n D C plan L M) : WC F P Q n D (.region id l.toArray true) L M := by
  simp only [Bool.and_eq_true, beq_iff_eq] at hp
  obtain ⟨⟨h1, h2⟩, h3⟩ := hp
  refine .mk fun a w s => ?_
  refine wpIn_region_any hm (wpAnyIn_of_anyE _ C _ _ _ ?_)
  have := h.out h1 (Array.replicate l.length false) ⟨by simp, fun j oj _ hl => by
    rcases Nat.lt_or_ge j l.length with h' | h'
    · simp [h'] at hl
    · simp [h'] at hl⟩ h2 a { w with drawn := w.drawn + 1 } ⟨s.agr, s.dfr, hcl _ _ s.mem ⟨rfl, rfl, rfl, Nat.le_refl _, fun _ _ => rfl⟩⟩
  rw [h3] at this
  simpa using this
end Go.Mc

namespace Go.Mc
section
variable {P : Program} {F : Fence} {L : List (Nat × Value)} {M : World → Prop} {d : Option Tmp} {ty : TypeId} {pos : String} {af : Array Edge} {g : Option (Nat × Bool)}
def aggB (P : Program) (t : TypeId) : Bool := match P.underlying t with | some (.struct _) | some (.array _ _) => true | _ => false
theorem eq_run {t : TypeId} {xs ys : Array Value} {la lb : List Lit} {D D' : Nat} (hk : P.keyTypeAt 6 t = true) (hag : aggB P t = true) (hxs : xs.size = P.cellsOf t) (hys : ys.size = P.cellsOf t)
    (ha : P.keyLits D t xs.toList = some la) (hb : P.keyLits D' t ys.toList = some lb) (w : World) {p : Prop} [Decidable p] (hp : la = lb ↔ p) : (Op.equalIn 10000 t (.agg xs) (.agg ys)).run P w = .ok (decide p) w := by
  have hf : ∀ cs : Array Value, cs.size = P.cellsOf t → (Value.agg cs).formed P t = true := fun cs hc => by
    unfold aggB at hag
    unfold Value.formed
    split at hag <;> simp_all
  obtain ⟨r, hr, hiff⟩ := run_equalIn_deep 9994 6 t hk w D D' (.agg xs) (.agg ys) la lb (hf _ hxs) (hf _ hys) (by simpa [Value.cells] using ha) (by simpa [Value.cells] using hb)
  rw [show (9994 + 6) = 10000 from rfl] at hr
  rw [hr]
  congr 1
  by_cases h : p
  · rw [hiff.2 (hp.2 h), decide_eq_true h]
  · rw [decide_eq_false h]
    cases r with
    | false => rfl
    | true => exact absurd (hp.1 (hiff.1 rfl)) h
theorem y_eq_agg {t t' : TypeId} {x y : Operand} {xs ys : Array Value} {la lb : List Lit} {D D' : Nat} (hk : P.keyTypeAt 6 t = true) (hag : aggB P t = true) (hgt : P.eqGuardType P.depth t = false) (hx : ev L x = some (.agg xs)) (hy : ev L y = some (.agg ys)) (hxs : xs.size = P.cellsOf t) (hys : ys.size = P.cellsOf t)
    (ha : P.keyLits D t xs.toList = some la) (hb : P.keyLits D' t ys.toList = some lb) {p : Prop} [Decidable p] (hp : la = lb ↔ p) : Yld P ⟨d, .binOp .eql t x y t', ty, pos, af, g⟩ L M (kb (decide p)) := .mk fun ρ w he _ => by
  simp only [execOp, he _ _ hx, he _ _ hy, Sem.run_bind, run_eqGuard_agg w .eql t x y xs ys hgt, Result.andThen_ok]
  rw [run_eql_struct, eq_run hk hag hxs hys ha hb w hp]
  rfl
theorem y_ne_agg {t t' : TypeId} {x y : Operand} {xs ys : Array Value} {la lb : List Lit} {D D' : Nat} (hk : P.keyTypeAt 6 t = true) (hag : aggB P t = true) (hgt : P.eqGuardType P.depth t = false) (hx : ev L x = some (.agg xs)) (hy : ev L y = some (.agg ys)) (hxs : xs.size = P.cellsOf t) (hys : ys.size = P.cellsOf t)
    (ha : P.keyLits D t xs.toList = some la) (hb : P.keyLits D' t ys.toList = some lb) {p : Prop} [Decidable p] (hp : la = lb ↔ p) : Yld P ⟨d, .binOp .neq t x y t', ty, pos, af, g⟩ L M (kb (!decide p)) := .mk fun ρ w he _ => by
  simp only [execOp, he _ _ hx, he _ _ hy, Sem.run_bind, run_eqGuard_agg w .neq t x y xs ys hgt, Result.andThen_ok]
  rw [run_neq_struct, eq_run hk hag hxs hys ha hb w hp]
  rfl
end
theorem mapM_some {α β : Type} {f : α → Option β} {h : α → β} : ∀ {l : List α}, (∀ x ∈ l, f x = some (h x)) → l.mapM f = some (l.map h)
  | [], _ => rfl
  | x :: l, H => by
    rw [List.mapM_cons, H x (by simp), mapM_some (fun y hy => H y (by simp [hy]))]
    rfl
theorem map_range {α β : Type} (l : List α) (f : α → β) (d : α) : (List.range l.length).map (fun i => f (l.getD i d)) = l.map f := by
  apply List.ext_getElem?
  intro i
  rcases Nat.lt_or_ge i l.length with h | h
  · rw [List.getElem?_map, List.getElem?_range h, List.getElem?_map, List.getElem?_eq_getElem h]
    simp [List.getD_eq_getElem?_getD, h]
  · rw [List.getElem?_eq_none (by simpa using h), List.getElem?_eq_none (by simpa using h)]
theorem flatten_singles {α β : Type} (l : List α) (f : α → β) : (l.map fun x => [f x]).flatten = l.map f := by
  induction l with
  | nil => rfl
  | cons x l ih => simp [ih]
/-- a kind's values as literals -/
class Lt1 {α : Type} (f : α → Value) where
  k : IntKind
  n : α → Int
  val : ∀ x, f x = .int k (n x)
  wf : ∀ x, (Lit.int k (n x)).wf = true
  inj : ∀ x y, n x = n y → x = y
  dflt : α
instance : Lt1 b8 := ⟨.u8, fun x => (x.toNat : Int), fun _ => rfl, fun x => by have := x.toNat_lt; simp [Lit.wf, IntKind.min, IntKind.max, IntKind.signed, IntKind.bits]; omega, fun x y h => UInt8.toNat_inj.1 (by omega), 0⟩
instance : Lt1 w64 := ⟨.u64, fun x => (x.toNat : Int), fun _ => rfl, fun x => by have := x.toNat_lt; simp [Lit.wf, IntKind.min, IntKind.max, IntKind.signed, IntKind.bits]; omega, fun x y h => UInt64.toNat_inj.1 (by omega), 0⟩
def litsOf {α : Type} (f : α → Value) [Lt1 f] (l : List α) : List Lit := l.map fun x => Lit.int (Lt1.k f) (Lt1.n f x)
theorem litsOf_inj {α : Type} {f : α → Value} [Lt1 f] {a b : List α} : litsOf f a = litsOf f b ↔ a = b := by
  constructor
  · intro h
    induction a generalizing b with
    | nil => cases b with
      | nil => rfl
      | cons y b => simp [litsOf] at h
    | cons x a ih => cases b with
      | nil => simp [litsOf] at h
      | cons y b =>
        simp only [litsOf, List.map_cons, List.cons.injEq, Lit.int.injEq, true_and] at h
        rw [Lt1.inj (f := f) x y h.1, ih h.2]
  · intro h; rw [h]
section
variable {P : Program}
theorem lits_int {α : Type} {f : α → Value} [Lt1 f] {D : Nat} {e : TypeId} (he : P.underlying e = some (.int (Lt1.k f))) (x : α) : P.keyLits (D + 1) e [f x] = some [.int (Lt1.k f) (Lt1.n f x)] := by
  unfold Program.keyLits
  rw [he, Lt1.val (f := f) x]
  simp only [Lt1.wf (f := f) x, and_self, if_true]
theorem lits_arr {α : Type} {f : α → Value} [Lt1 f] {D n : Nat} {t e : TypeId} {l : List α} (ht : P.underlying t = some (.array n e)) (he : P.underlying e = some (.int (Lt1.k f))) (hc : P.cellsOf e = 1) (hct : P.cellsOf t = n) (hl : l.length = n) :
    P.keyLits (D + 2) t (l.map f) = some (litsOf f l) := by
  subst hl
  unfold Program.keyLits
  rw [ht]
  simp only [List.length_map, hct, if_true, hc, Nat.mul_one]
  rw [mapM_some (h := fun i => [Lit.int (Lt1.k f) (Lt1.n f (l.getD i (Lt1.dflt f)))]) fun i hi => by
    have hi' := List.mem_range.1 hi
    have e1 : ((l.map f).drop i).take 1 = [f (l.getD i (Lt1.dflt f))] := by
      rw [List.drop_eq_getElem_cons (by simpa using hi')]
      simp [List.getD_eq_getElem?_getD, hi']
    rw [e1]; exact lits_int he _]
  simp only [Option.map_some, Option.some.injEq]
  rw [flatten_singles (List.range l.length) (fun i => Lit.int (Lt1.k f) (Lt1.n f (l.getD i (Lt1.dflt f))))]
  exact map_range l (fun x => Lit.int (Lt1.k f) (Lt1.n f x)) (Lt1.dflt f)
section
variable {F : Fence} {L : List (Nat × Value)} {M : World → Prop} {d : Option Tmp} {ty : TypeId} {pos : String} {af : Array Edge} {g : Option (Nat × Bool)}
theorem y_eq_arr {α : Type} {f : α → Value} [Lt1 f] [DecidableEq α] {n : Nat} {t e t' : TypeId} {x y : Operand} {a b : List α} (hk : P.keyTypeAt 6 t = true) (hgt : P.eqGuardType P.depth t = false) (ht : P.underlying t = some (.array n e)) (he : P.underlying e = some (.int (Lt1.k f))) (hc : P.cellsOf e = 1) (hct : P.cellsOf t = n)
    (hx : ev L x = some (.agg (arr f a))) (hy : ev L y = some (.agg (arr f b))) (ha : a.length = n) (hb : b.length = n) : Yld P ⟨d, .binOp .eql t x y t', ty, pos, af, g⟩ L M (kb (decide (a = b))) := by
  have h := y_eq_agg (P := P) (L := L) (M := M) (d := d) (ty := ty) (pos := pos) (af := af) (g := g) (t := t) (t' := t') (D := 2) (D' := 2) hk (by unfold aggB; rw [ht]) hgt hx hy (by simp [hct, ha]) (by simp [hct, hb]) (by simpa using lits_arr (D := 0) ht he hc hct ha) (by simpa using lits_arr (D := 0) ht he hc hct hb) (p := a = b) litsOf_inj
  exact h
theorem y_ne_arr {α : Type} {f : α → Value} [Lt1 f] [DecidableEq α] {n : Nat} {t e t' : TypeId} {x y : Operand} {a b : List α} (hk : P.keyTypeAt 6 t = true) (hgt : P.eqGuardType P.depth t = false) (ht : P.underlying t = some (.array n e)) (he : P.underlying e = some (.int (Lt1.k f))) (hc : P.cellsOf e = 1) (hct : P.cellsOf t = n)
    (hx : ev L x = some (.agg (arr f a))) (hy : ev L y = some (.agg (arr f b))) (ha : a.length = n) (hb : b.length = n) : Yld P ⟨d, .binOp .neq t x y t', ty, pos, af, g⟩ L M (kb (!decide (a = b))) := by
  have h := y_ne_agg (P := P) (L := L) (M := M) (d := d) (ty := ty) (pos := pos) (af := af) (g := g) (t := t) (t' := t') (D := 2) (D' := 2) hk (by unfold aggB; rw [ht]) hgt hx hy (by simp [hct, ha]) (by simp [hct, hb]) (by simpa using lits_arr (D := 0) ht he hc hct ha) (by simpa using lits_arr (D := 0) ht he hc hct hb) (p := a = b) litsOf_inj
  exact h
end
end
end Go.Mc

namespace Go.Mc
section
variable {w0 w : World} {own : List Nat} {H : List Ch}
theorem Mem.restart {A B : List Ch} (m : Mem w0 own (A ++ B) w) : Mem w (A.flatMap Ch.keys) A w :=
  Mem.start (fun c hc => m.sat c (List.mem_append_left _ hc)) (List.pairwise_append.1 m.apart).1
theorem Mem.rd_at (m : Mem w0 own H w) {i b o n : Nat} {cs : Array Value} {E : TypeId} {fz : Nat × Nat} {xs : List Value} (hi : H[i]? = some (.blk b (.cells cs E fz))) (h : (cs.toList.drop o).take n = xs) (hn : xs.length = n) : Rd w (some ⟨b, o, none⟩) n 1 xs := by
  refine ⟨by rw [hn, Nat.mul_one], fun k x hk => ⟨rfl, ?_⟩⟩
  have hk' := (List.getElem?_eq_some_iff.1 hk).1
  rw [← h, List.getElem?_take, if_pos (by omega), List.getElem?_drop] at hk
  rw [adr, Option.getD_some, Addr.add_mk, cell_of_heap (m.blk hi)]
  simpa using hk
theorem Mem.clip {α : Type} {f : α → Value} {ad : Option Addr} {n cap : Nat} {E : TypeId} {xs : List α} (m : Mem w0 own (.sl ad n cap E 1 (xs.map f) :: H) w) : Mem w0 own (.sl ad n n E 1 (xs.map f) :: H) w := by
  have hsat := m.sat (.sl ad n cap E 1 (xs.map f)) (by simp)
  have hap := List.pairwise_cons.1 m.apart
  have hsub : ∀ b ∈ (Ch.sl ad n n E 1 (xs.map f)).keys, b ∈ (Ch.sl ad n cap E 1 (xs.map f)).keys := by
    intro b hb
    cases ad with
    | none => cases hb
    | some a =>
      cases n with
      | zero => cases hb
      | succ n =>
        cases cap with
        | zero => obtain ⟨h1, _⟩ := hsat; cases h1
        | succ cap => exact hb
  have hs' : (Ch.sl ad n n E 1 (xs.map f)).sat (World.at w) := by
    cases ad with
    | none => obtain ⟨h1, h2, h3⟩ := hsat; subst h1; exact ⟨rfl, rfl, h3⟩
    | some a =>
      cases cap with
      | zero => obtain ⟨h1, h2, h3⟩ := hsat; subst h1; exact ⟨rfl, rfl, h3⟩
      | succ cap =>
        obtain ⟨h1, h2, h3, h4, rest, h5, h6⟩ := hsat
        cases n with
        | zero => exact ⟨rfl, rfl, List.eq_nil_of_length_eq_zero (by omega)⟩
        | succ n => exact ⟨h1, h2, Nat.le_refl _, h4, rest, by omega, h6⟩
  refine ⟨m.os, m.tape, m.output, m.size, m.frame, fun c hc => ?_, List.pairwise_cons.2 ⟨fun c hc b hb => hap.1 c hc b (hsub b hb), hap.2⟩, fun c hc b hb => ?_⟩
  · rcases List.mem_cons.1 hc with rfl | hc
    · exact hs'
    · exact m.sat c (List.mem_cons_of_mem _ hc)
  · rcases List.mem_cons.1 hc with rfl | hc
    · exact m.mine _ (List.mem_cons_self ..) b (hsub b hb)
    · exact m.mine c (List.mem_cons_of_mem _ hc) b hb
/-- what was there before lies apart of what the call made -/
theorem Mem.off_ros {A B : List Ch} (m : Mem w0 [] (A ++ B) w) {ad : Option Addr} {n : Nat} {xs : List Value} (h : Rd w0 ad n 1 xs) : xs ≠ [] → ∀ a, ad = some a → a.block ∉ A.flatMap Ch.keys := by
  intro hx a ha hb
  subst ha
  obtain ⟨c, hc, hcb⟩ := List.mem_flatMap.1 hb
  have h1 := m.mine c (List.mem_append_left _ hc) _ hcb
  cases xs with
  | nil => exact hx rfl
  | cons x xs =>
    have h2 := (h.2 0 x rfl).2
    have h3 := World.block_lt_of_cell? _ _ h2
    simp only [adr, Option.getD_some, Addr.add_block] at h3
    rcases h1 with h1 | h1
    · cases h1
    · omega
/-- a block that is not handed over -/
theorem Mem.off_chs {A B : List Ch} (m : Mem w0 own (A ++ B) w) {j b o : Nat} {ob : Obj} (hj : B[j]? = some (.blk b ob)) {xs : List Value} : xs ≠ [] → ∀ a, (some ⟨b, o, none⟩ : Option Addr) = some a → a.block ∉ A.flatMap Ch.keys := by
  intro _ a ha hb
  injection ha with ha
  subst ha
  obtain ⟨c, hc, hcb⟩ := List.mem_flatMap.1 hb
  exact (List.pairwise_append.1 m.apart).2.2 c hc _ (List.mem_of_getElem? hj) _ hcb (by simp [Ch.keys])
end
section
variable {P : Program} {L : List (Nat × Value)} {M : World → Prop} {d : Option Tmp} {ty : TypeId} {pos : String} {af : Array Edge} {g : Option (Nat × Bool)}
/-- a whole array in a block, as a slice -/
theorem y_slice_arw {t e : TypeId} {x : Operand} {b o len sz : Nat} (ht : arB P t len e = true) (hs : szB P e sz = true) (hx : ev L x = some (.pointer (some ⟨b, o, none⟩))) : Yld P ⟨d, .slice t x none none none, ty, pos, af, g⟩ L M (.slice (some ⟨b, o, none⟩) len len) := .mk fun ρ w he _ => by
  have hb := run_bounds (P := P) (w := w) (isS := false) (cap := len) (m := len) (h := len) (l := 0) he (mx := none) (hi := none) (lo := none) rfl rfl rfl (by simp) (Nat.le_refl _) (Nat.le_refl _) (Nat.zero_le _)
  simp only [Option.map_none] at hb
  simp [execOp, Instr.sliceAt, run_under (und_ar ht), he _ _ hx, hb, run_sizeOf hs, Instr.sureAddr]
def litE : Lit → Lit → Bool
  | .bool a, .bool b => a == b
  | .int k n, .int k' n' => decide (k = k') && decide (n = n')
  | .float k n, .float k' n' => decide (k = k') && decide (n = n')
  | .string a, .string b => decide (a = b)
  | .nil, .nil => true
  | _, _ => false
theorem litE_iff (a b : Lit) : litE a b = true ↔ a = b := by
  cases a <;> cases b <;> simp [litE]
instance : DecidableEq Lit := fun a b => decidable_of_iff _ (litE_iff a b)
/-- two closed values -/
def litsB (P : Program) (t : TypeId) (xs ys : Array Value) (r : Bool) : Bool :=
  match P.keyLits 8 t xs.toList, P.keyLits 8 t ys.toList with
  | some a, some b => (decide (a = b) == r) && (xs.size == P.cellsOf t) && (ys.size == P.cellsOf t) && aggB P t && P.keyTypeAt 6 t && !(P.eqGuardType P.depth t)
  | _, _ => false
theorem litsB_out {t : TypeId} {xs ys : Array Value} {r : Bool} (h : litsB P t xs ys r = true) : ∃ a b, P.keyLits 8 t xs.toList = some a ∧ P.keyLits 8 t ys.toList = some b ∧ decide (a = b) = r ∧ xs.size = P.cellsOf t ∧ ys.size = P.cellsOf t ∧ aggB P t = true ∧ P.keyTypeAt 6 t = true ∧ P.eqGuardType P.depth t = false := by
  unfold litsB at h
  split at h
  · rename_i a b h1 h2
    simp only [Bool.and_eq_true, beq_iff_eq, Bool.not_eq_true'] at h
    obtain ⟨⟨⟨⟨⟨a1, a2⟩, a3⟩, a4⟩, a5⟩, a6⟩ := h
    exact ⟨a, b, h1, h2, a1, a2, a3, a4, a5, a6⟩
  · cases h
theorem y_eq_lit {t t' : TypeId} {x y : Operand} {xs ys : Array Value} (r : Bool) (h : litsB P t xs ys r = true) (hx : ev L x = some (.agg xs)) (hy : ev L y = some (.agg ys)) : Yld P ⟨d, .binOp .eql t x y t', ty, pos, af, g⟩ L M (kb r) := by
  obtain ⟨a, b, h1, h2, h3, h4, h5, h6, h7, h8⟩ := litsB_out h
  exact h3 ▸ y_eq_agg h7 h6 h8 hx hy h4 h5 h1 h2 Iff.rfl
theorem y_ne_lit {t t' : TypeId} {x y : Operand} {xs ys : Array Value} (r : Bool) (h : litsB P t xs ys r = true) (hx : ev L x = some (.agg xs)) (hy : ev L y = some (.agg ys)) : Yld P ⟨d, .binOp .neq t x y t', ty, pos, af, g⟩ L M (kb (!r)) := by
  obtain ⟨a, b, h1, h2, h3, h4, h5, h6, h7, h8⟩ := litsB_out h
  exact h3 ▸ y_ne_agg h7 h6 h8 hx hy h4 h5 h1 h2 Iff.rfl
end
section
variable {P : Program} {F : Fence} {L : List (Nat × Value)} {d : Option Tmp} {ty : TypeId} {pos : String} {af : Array Edge} {g : Option (Nat × Bool)} {w0 : World} {own : List Nat} {H : List Ch} {α : Type} {f : α → Value} [One f]
/-- copies into cells from a place on -/
theorem e_copy_at {t E Eb : TypeId} {x y : Operand} {i b o n cap m c : Nat} {a : Option Addr} {cs : Array Value} {news : List α} {tys : Array TypeId} {H' : List Ch} (ht : slB P t E = true) (hE : szB P E 1 = true) (htys : tys = #[t, t]) (hx : ev L x = some (.slice (some ⟨b, o, none⟩) n cap)) (hy : ev L y = some (.slice a m c))
    (hi : H[i]? = some (.blk b (.cells cs Eb (0, 0)))) (hn : o + n ≤ cs.size) (hr : ∀ w, Mem w0 own H w → Rd w a m 1 (news.map f)) (k : Nat) (hk : min m n = k) (cs' : List Value) (hcs : cs.toList.take o ++ (news.take k).map f ++ cs.toList.drop (o + k) = cs') (hH : SetAt H i (.blk b (.cells cs'.toArray Eb (0, 0))) H') :
    Eff F P ⟨d, .call ⟨.builtin .copy, #[x, y], tys⟩, ty, pos, af, g⟩ L (Mem w0 own H) (fun _ : Unit => ki (k : Int)) (fun _ => Mem w0 own H') := eff_mk fun ρ w he mm => by
  subst htys
  subst hk
  have hb := mm.blk hi
  have hrd := hr w mm
  have hlen : news.length = m := by simpa using hrd.1
  have hu : P.underlying t = some (.slice E) := und_sl ht
  have hs : (P.info? E).map (·.size) = some 1 := by
    unfold szB at hE
    split at hE
    · rename_i k hk; rw [hk]; simpa using hE
    · cases hE
  have e1 := he _ _ hx
  have e2 := he _ _ hy
  by_cases h0 : min m n = 0
  · refine ⟨(), w, .inl ?_, ?_⟩
    · have := run_copy_none w t t ty E (some ⟨b, o, none⟩) a n cap m c hu hs h0
      simp [execOp, resolve, invoke, builtin, e1, e2, this, h0, goInt]
    · rw [hH.eq, ← hcs, h0, List.take_zero, List.map_nil, List.append_nil, Nat.add_zero, List.take_append_drop, Array.toArray_toList, set_same hi]; exact mm
  · have h0' : m ≠ 0 := by omega
    have hne : (news.map f)[0]? = some (f (news[0]'(by omega))) := by rw [List.getElem?_map, List.getElem?_eq_getElem (by omega)]; rfl
    obtain ⟨q, rfl⟩ := Option.isSome_iff_exists.1 (hrd.2 0 _ hne).1
    have hcl : ((news.take (min m n)).map f).length = Nat.min m n := by simp; show _ = min m n; omega
    have hrun := run_copy_row P w t t ty E b o n cap q m c cs Eb ((news.take (min m n)).map f) hu hs hb hcl
      (fun j v hj => by
        rw [List.getElem?_map, List.getElem?_take] at hj
        split at hj
        · exact (hrd.2 j v (by rw [List.getElem?_map]; exact hj)).2
        · cases hj)
      (by rw [hcl]; exact Nat.le_trans (Nat.add_le_add_left (Nat.min_le_right _ _) _) hn)
      (fun v hv => by obtain ⟨z, _, rfl⟩ := List.mem_map.1 hv; exact One.one z)
    have e3 : (cs.toList.take o ++ (news.take (min m n)).map f ++ cs.toList.drop (o + ((news.take (min m n)).map f).length)) = cs' := by
      rw [← hcs, hcl]
    rw [e3] at hrun
    refine ⟨(), w.setRow b cs'.toArray, .inl ?_, ?_⟩
    · have h9 : min m (min n news.length) = min m n := by omega
      simp [execOp, resolve, invoke, builtin, e1, e2, hrun, goInt, h9]
    · rw [hH.eq]; exact mm.upd hi (upd_setRow hb)
theorem c_lit {cs : Array Value} {vs : List Value} {off : Nat} (h : (cs.toList.drop off).take vs.length = vs) : ∀ j v, vs[j]? = some v → cs[off + j]? = some v := by
  intro j v hj
  have hk := (List.getElem?_eq_some_iff.1 hj).1
  rw [← h, List.getElem?_take, if_pos hk, List.getElem?_drop] at hj
  simpa using hj
theorem one_all {vs : List Value} (h : vs.all Value.oneCell' = true) : ∀ u ∈ vs, u.oneCell' = true := List.all_eq_true.1 h
theorem e_store1c {t : TypeId} {x y : Operand} {i b o : Nat} {v : Value} {cs cs' : Array Value} {E : TypeId} {H' : List Ch} (hs : szB P t 1 = true) (hx : ev L x = some (.pointer (some ⟨b, o, none⟩))) (hy : ev L y = some v) (hi : H[i]? = some (.blk b (.cells cs E (0, 0))))
    (hone : v.oneCell' = true) (ho : Nat.blt o cs.size = true) (hc : cs.setIfInBounds o v = cs') (hH : SetAt H i (.blk b (.cells cs' E (0, 0))) H') :
    Eff F P ⟨d, .store t x y, ty, pos, af, g⟩ L (Mem w0 own H) (fun _ : Unit => undef) (fun _ => Mem w0 own H') := by
  subst hc
  exact e_store1 hs hx hy hi hone (by simpa [Nat.blt_eq] using ho) hH
theorem e_storec {t : TypeId} {x y : Operand} {k i b o : Nat} {v : Value} {cs cs' : Array Value} {E : TypeId} {H' : List Ch} (hs : szB P t k = true) (hx : ev L x = some (.pointer (some ⟨b, o, none⟩))) (hy : ev L y = some v) (hi : H[i]? = some (.blk b (.cells cs E (0, 0))))
    (hk : (v.cells.size == k) = true) (ho : Nat.ble (o + k) cs.size = true) (hone : v.cells.toList.all Value.oneCell' = true) (hc : setR cs o v.cells.toList = cs') (hH : SetAt H i (.blk b (.cells cs' E (0, 0))) H') :
    Eff F P ⟨d, .store t x y, ty, pos, af, g⟩ L (Mem w0 own H) (fun _ : Unit => undef) (fun _ => Mem w0 own H') := by
  subst hc
  exact e_store hs hx hy hi (by simpa using hk) (Nat.le_of_ble_eq_true ho) (one_all hone) hH
theorem arr3 {first cap : Array Value} {vs al : List Value} (h : first.toList ++ vs ++ cap.toList = al) : first ++ vs.toArray ++ cap = al.toArray := by
  subst h
  apply Array.ext'
  simp
theorem e_callvMl [Wide F] {x : Operand} {f : FuncId} {first cap : Array Value} {args : Array Operand} {tys : Array TypeId} {vs al : List Value} {α : Sort _} {V : α → Value} {H' : α → List Ch} (hx : ev L x = some (.func (.func f) first cap)) (is : List Nat) (Hp Hr : List Ch) (hp : Picks is H (Hp ++ Hr)) (hn : is.Nodup) (hf : cfB P f = true) (ha : evs L args.toList = some vs) (hal : first.toList ++ vs ++ cap.toList = al) (own' : List Nat) (ho : own' = Hp.flatMap Ch.keys)
    (hc : ∀ w, Mem w0 own (Hp ++ Hr) w → Calls P f al.toArray w (Ret V (fun x => Mem w own' (H' x)))) :
    Eff F P ⟨d, .call ⟨.value x, args, tys⟩, ty, pos, af, g⟩ L (Mem w0 own H) V (fun x => Mem w0 own (H' x ++ Hr)) :=
  e_callvM hx is Hp Hr hp hn hf ha own' ho (by rw [arr3 hal]; exact hc)
theorem e_callv0l [Wide F] {x : Operand} {f : FuncId} {first cap : Array Value} {args : Array Operand} {tys : Array TypeId} {vs al : List Value} {α : Sort _} {V : α → Value} {H' : α → List Ch} (hx : ev L x = some (.func (.func f) first cap)) (hf : cfB P f = true) (ha : evs L args.toList = some vs) (hal : first.toList ++ vs ++ cap.toList = al)
    (hc : ∀ w, Mem w0 own H w → Calls P f al.toArray w (Ret V (fun x => Mem w [] (H' x)))) :
    Eff F P ⟨d, .call ⟨.value x, args, tys⟩, ty, pos, af, g⟩ L (Mem w0 own H) V (fun x => Mem w0 own (H' x ++ H)) :=
  e_callv0 hx hf ha (by rw [arr3 hal]; exact hc)
end
end Go.Mc
