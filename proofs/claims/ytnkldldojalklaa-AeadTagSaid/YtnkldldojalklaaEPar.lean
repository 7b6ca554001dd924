/- Lemmas and contracts for the proof of this seat's statements (Par). No condition. -/
import Derived.Test.YtnkldldojalklaaEBld
set_option linter.all false
namespace Go.Mc
theorem Mem.perm {w0 w : World} {own : List Nat} {H H' : List Ch} (h : H.Perm H') (m : Mem w0 own H w) : Mem w0 own H' w :=
  ⟨m.os, m.tape, m.output, m.size, m.frame, fun c hc => m.sat c (h.mem_iff.2 hc),
    (h.pairwise_iff (R := fun c d : Ch => ∀ b ∈ c.keys, b ∉ d.keys) (fun hxy b hb hb' => hxy b hb' hb)).1 m.apart, fun c hc => m.mine c (h.mem_iff.2 hc)⟩
theorem Mem.left {w0 w : World} {own : List Nat} {A B : List Ch} (m : Mem w0 own (A ++ B) w) : Mem w0 own A w :=
  ⟨m.os, m.tape, m.output, m.size, m.frame, fun c hc => m.sat c (List.mem_append_left _ hc), (List.pairwise_append.1 m.apart).1, fun c hc => m.mine c (List.mem_append_left _ hc)⟩

/-- what an operation makes up: a block, or an address and a room -/
abbrev Gh : Type := Nat × Option Addr × Nat
def upd (x : Nat → Gh) (i : Nat) (g : Gh) : Nat → Gh := fun j => if j = i then g else x j
theorem upd_ne {x : Nat → Gh} {i j : Nat} {g : Gh} (h : j ≠ i) : upd x i g j = x j := if_neg h

variable {F : Fence} {P : Program} {n : Nat} {D : List Deferred} {L : List (Nat × Value)} {M : World → Prop} {ops : Array Oper}

/-- an operation that makes new memory at most -/
def PEff (F : Fence) (P : Program) (o : Oper) (L : List (Nat × Value)) (M : World → Prop) (V : Gh → Value) (K : Gh → List Ch) : Prop :=
  Box (∀ w1, M w1 → Eff F P o L (fun w => w = w1) V (fun g w' => Mem w1 [] (K g) w'))

def Kof (K : Nat → (Nat → Gh) → List Ch) (S : List Nat) (x : Nat → Gh) : List Ch := S.flatMap fun i => K i x
def Lof (ops : Array Oper) (V : Nat → (Nat → Gh) → Value) (S : List Nat) (x : Nat → Gh) : List (Nat × Value) := S.filterMap fun i => ((ops[i]?).bind (·.dst)).map fun d => (d, V i x)

theorem agr_app {a : Act} {L0 : List (Nat × Value)} (h0 : Agr n L0 a) : ∀ {A : List (Nat × Value)}, (∀ p ∈ A, a.tmps[p.1]? = some p.2) → Agr n (A ++ L0) a := by
  intro A
  induction A with
  | nil => intro _; exact h0
  | cons p A ih =>
    intro h
    have ih' := ih fun q hq => h q (by simp [hq])
    refine ⟨h0.size, fun t v hv => ?_⟩
    obtain ⟨u, y⟩ := p
    by_cases e : u = t
    · subst e
      rw [List.cons_append, lk_cons_eq] at hv
      injection hv with hv; subst hv
      exact h (u, y) (by simp)
    · rw [List.cons_append, lk_cons_ne e] at hv
      exact ih'.at_ t v hv

theorem anyE_class {QN : Act → World → Prop} {C C' : World → Prop} (hs : ∀ w, C' w → C w) : ∀ (fuel : Nat) (listed : Array Bool) (a : Act) (w : World), anyE F P ops QN C' fuel listed a w → anyE F P ops QN C fuel listed a w
  | 0, _, _, _, h => h
  | fuel + 1, listed, a, w, h => ⟨h.1, fun i hi => opE_mono (Q := fun _ _ _ => False) (fun a' w' hk => by
      rcases hk with h1 | h1 | ⟨C2, h2, h3, h4⟩
      · exact .inl h1
      · exact .inr (.inl h1)
      · exact .inr (.inr ⟨C2, h2, fun w hw => hs w (h3 w hw), h4⟩)) (h.2 i hi)⟩

/-- the order among them, for the kernel -/
def parB (ops : Array Oper) (n : Nat) (par fl : List Nat) (ds : Nat → List Nat) (l0 : List Nat) : Bool :=
  par.all (fun i => decide (i < ops.size) && (match ops[i]? with
    | some o => o.guard.isNone && okDst o.dst n && (match o.dst with | some d => !l0.contains d | none => true) && o.after.all (fun e => !Region.binds .any e || (par.contains e.on && decide (e.on < i)))
    | none => false) && (ds i).all (fun j => par.contains j && reach ops ops.size i j) && decide (ds i).Nodup) &&
  decide par.Nodup && decide ((par.filterMap fun i => (ops[i]?).bind (·.dst)).Nodup) &&
  (List.range ops.size).all (fun k => par.contains k || par.all fun i => fl.contains i || reach ops ops.size k i) && fl.all (fun f => par.contains f && Region.free .any ops ((Array.range ops.size).map fun k => reach ops ops.size f k) f)

variable {Q : Exit → Act → World → Prop} {w0 : World} {own : List Nat}

theorem dst_ne {par : List Nat} {f : Nat → Option Tmp} (h : (par.filterMap f).Nodup) {i j : Nat} (hi : i ∈ par) (hj : j ∈ par) (hij : i ≠ j) {d : Tmp} (hd : f i = some d) : f j ≠ some d := by
  intro hd'
  induction par with
  | nil => cases hi
  | cons p par ih =>
    rw [List.filterMap_cons] at h
    rcases List.mem_cons.1 hi with rfl | hi' <;> rcases List.mem_cons.1 hj with rfl | hj'
    · exact hij rfl
    · rw [hd] at h
      exact (List.nodup_cons.1 h).1 (List.mem_filterMap.2 ⟨j, hj', hd'⟩)
    · rw [hd'] at h
      exact (List.nodup_cons.1 h).1 (List.mem_filterMap.2 ⟨i, hi', hd⟩)
    · refine ih ?_ hi' hj'
      cases hp : f p with
      | none => rw [hp] at h; exact h
      | some q => rw [hp] at h; exact (List.nodup_cons.1 h).2

set_option maxHeartbeats 1000000 in
theorem wc_par {id : Nat} {l : List Oper} {L0 : List (Nat × Value)} {H0 : List Ch} (par fl : List Nat) (ds : Nat → List Nat) (rest : List (Nat × PK)) (V : Nat → (Nat → Gh) → Value) (K : Nat → (Nat → Gh) → List Ch)
    [Wide F] (hm : P.follows .mixedOrders = true) (hp : (plainB l.toArray && parB l.toArray n par fl ds (L0.map (·.1)) && planB l.toArray rest (par.foldl (fun a i => a.setIfInBounds i true) (Array.replicate l.length false)) && par.length + rest.length == l.length) = true)
    (hop : ∀ i ∈ par, ∀ o, l.toArray[i]? = some o → ∀ x, PEff F P o (Lof l.toArray V (ds i) x ++ L0) (Mem w0 own (Kof K (ds i) x ++ H0)) (fun g => V i (upd x i g)) (fun g => K i (upd x i g)))
    (hfl : ∀ f ∈ fl, ∀ o, l.toArray[f]? = some o → ∀ x, Yld P o (Lof l.toArray V (ds f) x ++ L0) (fun _ => True) (V f x) ∧ K f x = [])
    (hloc : ∀ j ∈ par, ∀ x x', (∀ i ∈ j :: ds j, x i = x' i) → V j x = V j x' ∧ K j x = K j x')
    (h : ∀ x, WP F P l.toArray Q n D (fun _ => True) rest (Lof l.toArray V par x ++ L0) (Mem w0 own (Kof K par x ++ H0))) :
    WC F P Q n D (.region id l.toArray true) L0 (Mem w0 own H0) := by
  simp only [Bool.and_eq_true, beq_iff_eq] at hp
  obtain ⟨⟨⟨h1, h2⟩, h3⟩, h4⟩ := hp
  unfold parB at h2
  simp only [Bool.and_eq_true, decide_eq_true_eq, List.all_eq_true] at h2
  obtain ⟨⟨⟨⟨hA, hnd⟩, hdn⟩, hO⟩, hF⟩ := h2
  have spec : ∀ i ∈ par, ∃ o, l.toArray[i]? = some o ∧ o.guard = none ∧ okDst o.dst n = true ∧ (∀ d, o.dst = some d → d ∉ L0.map (·.1)) ∧ (∀ e ∈ o.after, Region.binds .any e = true → e.on ∈ par ∧ e.on < i) ∧ (∀ j ∈ ds i, j ∈ par ∧ reach l.toArray l.toArray.size i j = true) ∧ (ds i).Nodup := by
    intro i hi
    obtain ⟨⟨⟨hlt, hmt⟩, hd⟩, hdd⟩ := hA i hi
    cases ho : l.toArray[i]? with
    | none => rw [ho] at hmt; cases hmt
    | some o =>
      rw [ho] at hmt
      simp only [Bool.and_eq_true, Option.isNone_iff_eq_none] at hmt
      obtain ⟨⟨⟨g1, g2⟩, g3⟩, g4⟩ := hmt
      refine ⟨o, rfl, g1, g2, fun d hd' => ?_, fun e he hb => ?_, fun j hj => ?_, hdd⟩
      · rw [hd'] at g3; simpa using g3
      · have := (Array.all_eq_true_iff_forall_mem.1 g4) e he
        simp only [hb, Bool.not_true, Bool.false_or, Bool.and_eq_true, decide_eq_true_eq, List.contains_iff_mem] at this
        exact this
      · have := hd j hj
        simpa using this
  have hout : ∀ k, k < l.toArray.size → k ∉ par → ∀ i ∈ par, i ∉ fl → reach l.toArray l.toArray.size k i = true := by
    intro k hk hkp i hi hif
    have := hO k (List.mem_range.2 hk)
    simp only [Bool.or_eq_true, List.contains_iff_mem, List.all_eq_true] at this
    exact ((this.resolve_left hkp) i hi).resolve_left hif
  have hflp : ∀ f ∈ fl, f ∈ par ∧ Region.free .any l.toArray ((Array.range l.toArray.size).map fun k => reach l.toArray l.toArray.size f k) f = true := by
    intro f hf
    have := hF f hf
    simpa using this
  have full : ∀ S : List Nat, S.Nodup → (∀ i ∈ S, i ∈ par) → par.length ≤ S.length → ∀ i ∈ par, i ∈ S := by
    intro S hS hsub hlen i hi
    apply Classical.byContradiction
    intro hn
    have : (i :: S).length ≤ par.length := List.Nodup.length_le_of_subset (List.nodup_cons.2 ⟨hn, hS⟩) (fun j hj => by
      rcases List.mem_cons.1 hj with rfl | h
      · exact hi
      · exact hsub j h)
    simp at this; omega
  have key : ∀ (m : Nat) (S : List Nat) (listed : Array Bool) (a : Act) (w : World) (x : Nat → Gh), S.Nodup → (∀ i, i ∈ S ↔ listed.getD i false = true) → (∀ i ∈ S, i ∈ par) → lClosed l.toArray listed → S.length + m = par.length →
      (∀ i ∈ S, ∀ d, (l.toArray[i]?).bind (·.dst) = some d → a.tmps[d]? = some (V i x)) → Agr n L0 a → a.defers = D → Mem w0 own (Kof K S x ++ H0) w →
      anyE F P l.toArray (fun a w => Q .normal a w) (fun _ => True) (m + rest.length) listed a w := by
    intro m
    induction m with
    | zero =>
      intro S listed a w x hS hSl hsub hlc hlen htm hag hdf hmem
      have hpS := full S hS hsub (by omega)
      have hperm : S.Perm par := (List.perm_ext_iff_of_nodup hS hnd).2 fun i => ⟨hsub i, hpS i⟩
      have hcan : listed = par.foldl (fun a i => a.setIfInBounds i true) (Array.replicate l.length false) := by
        have fg : ∀ (p : List Nat) (arr : Array Bool), (p.foldl (fun a i => a.setIfInBounds i true) arr).size = arr.size ∧ ∀ k, k < arr.size → (p.foldl (fun a i => a.setIfInBounds i true) arr)[k]? = if k ∈ p then some true else arr[k]? := by
          intro p
          induction p with
          | nil => intro arr; exact ⟨rfl, fun k _ => by simp⟩
          | cons q p ih =>
            intro arr
            obtain ⟨i1, i2⟩ := ih (arr.setIfInBounds q true)
            refine ⟨by simpa using i1, fun k hk => ?_⟩
            rw [List.foldl_cons, i2 k (by simpa using hk)]
            by_cases hkp : k ∈ p
            · simp [hkp]
            · by_cases hkq : k = q
              · subst hkq; simp [hkp, hk]
              · simp only [hkp, if_false, List.mem_cons, hkq, or_self]
                rw [Array.getElem?_setIfInBounds_ne (fun e => hkq e.symm)]
        obtain ⟨f1, f2⟩ := fg par (Array.replicate l.length false)
        have hsz : listed.size = l.length := by rw [hlc.1]; simp
        apply Array.ext_getElem?
        intro k
        by_cases hk : k < l.length
        · rw [f2 k (by simpa using hk)]
          have hg : listed[k]? = some (listed.getD k false) := by simp [hsz, hk]
          rw [hg]
          by_cases hkp : k ∈ par
          · rw [if_pos hkp, (hSl k).1 (hpS k hkp)]
          · rw [if_neg hkp]
            have : ¬ (listed.getD k false = true) := fun h => hkp (hsub k ((hSl k).2 h))
            simp [this, hk]
        · rw [Array.getElem?_eq_none (by omega), Array.getElem?_eq_none (by rw [f1]; simp; omega)]
      have hst : St n (Lof l.toArray V par x ++ L0) D (Mem w0 own (Kof K par x ++ H0)) a w := by
        refine ⟨agr_app hag fun p hp => ?_, hdf, ?_⟩
        · obtain ⟨i, hi, he⟩ := List.mem_filterMap.1 hp
          obtain ⟨d, hd, rfl⟩ := Option.map_eq_some_iff.1 he
          exact htm i (hpS i hi) d hd
        · exact Mem.perm ((List.Perm.flatMap_right (fun i => K i x) hperm).append_right H0) hmem
      have := (h x).out h1 listed hlc (hcan ▸ h3) a w hst
      rw [Nat.zero_add]
      exact this
    | succ m ih =>
      intro S listed a w x hS hSl hsub hlc hlen htm hag hdf hmem
      have hne : ∀ p, p ∈ par → p ∉ S → Region.ready .any l.toArray listed ≠ [] := by
        intro p
        induction p using Nat.strongRecOn with
        | _ p ihp =>
          intro hp hpn
          obtain ⟨o, ho, _, _, _, hed, _, _⟩ := spec p hp
          by_cases hall : ∀ e ∈ o.after, Region.binds .any e = true → listed.getD e.on false = true
          · intro hr
            have : p ∈ Region.ready .any l.toArray listed := mem_ready.2 ⟨by
              have hlt : p < listed.size := by rw [hlc.1]; exact (Array.getElem?_eq_some_iff.1 ho).1
              have h5 : ¬ (listed.getD p false = true) := fun h => hpn ((hSl p).2 h)
              simpa [hlt] using h5, o, ho, hall⟩
            rw [hr] at this; cases this
          · simp only [Classical.not_forall] at hall
            obtain ⟨e, he, hb, hl⟩ := hall
            obtain ⟨q1, q2⟩ := hed e he hb
            exact ihp e.on q2 q1 fun h => hl ((hSl _).1 h)
      have hrne : Region.ready .any l.toArray listed ≠ [] := by
        apply Classical.byContradiction
        intro hcon
        have hcon' := Classical.not_not.1 hcon
        have : ∀ i ∈ par, i ∈ S := fun i hi => Classical.byContradiction fun hn => hne i hi hn hcon'
        have := List.Nodup.length_le_of_subset hnd this
        omega
      rw [Nat.add_right_comm]
      -- what holds when one more is listed
      have step : ∀ i o, i ∈ par → i ∉ S → l.toArray[i]? = some o → (∀ j ∈ ds i, j ∈ S) → i ∈ Region.ready .any l.toArray listed → ∀ (g : Gh) (w2 : World), Mem w0 own (K i (upd x i g) ++ (Kof K S x ++ H0)) w2 →
          anyE F P l.toArray (fun a w => Q .normal a w) (fun _ => True) (m + rest.length) (listed.setIfInBounds i true) (a.put o.dst (V i (upd x i g))) w2 := by
        intro i o hip hiS hoi hdS hi g w2 hm2
        have hilt : i < l.toArray.size := (Array.getElem?_eq_some_iff.1 hoi).1
        obtain ⟨o', ho', hgd, hok, hdL, hed, hdsi, hdn'⟩ := spec i hip
        obtain rfl : o = o' := Option.some.inj (hoi.symm.trans ho')
        have hdc : ∀ k ∈ S, ∀ q ∈ k :: ds k, upd x i g q = x q := by
          intro k hk q hq
          refine upd_ne fun e => hiS ?_
          subst e
          rcases List.mem_cons.1 hq with rfl | hq
          · exact hk
          · obtain ⟨ok, hok', _, _, _, _, hdk, _⟩ := spec k (hsub k hk)
            exact (hSl q).2 (reach_listed hlc _ _ _ ok hok' (fun e he hb => hlc.2 k ok hok' ((hSl k).1 hk) e he hb) (hdk q hq).2)
        refine ih (i :: S) (listed.setIfInBounds i true) _ w2 (upd x i g) (List.nodup_cons.2 ⟨hiS, hS⟩) (fun k => ?_) (fun k hk => ?_) (hlc.set hi) (by simp; omega) (fun k hk d hd => ?_) ?_ ?_ ?_
        · by_cases hki : i = k
          · subst hki
            have hlt : i < listed.size := by rw [hlc.1]; exact hilt
            simp [hlt]
          · rw [getD_set_ne false hki, ← hSl k]
            simp only [List.mem_cons]
            exact ⟨fun h => h.resolve_left (fun e => hki e.symm), .inr⟩
        · rcases List.mem_cons.1 hk with rfl | hk
          · exact hip
          · exact hsub k hk
        · rcases List.mem_cons.1 hk with rfl | hk
          · rw [hoi] at hd
            have hd' : o.dst = some d := hd
            have := (hag.putL o.dst hok (V k (upd x k g))).at_ d
            rw [hd'] at this ⊢
            exact this _ (lk_cons_eq ..)
          · have hVk := (hloc k (hsub k hk) (upd x i g) x (hdc k hk)).1
            rw [hVk]
            have h6 := htm k hk d hd
            cases hod : o.dst with
            | none => exact h6
            | some di =>
              have hne' : d ≠ di := by
                intro e; subst e
                have hki : k ≠ i := fun e => hiS (e ▸ hk)
                exact dst_ne hdn (hsub k hk) hip hki hd (by rw [hoi]; exact hod)
              show (a.tmps.setIfInBounds di _)[d]? = _
              rw [Array.getElem?_setIfInBounds_ne (fun e => hne' e.symm)]; exact h6
        · have h7 := hag.putL o.dst hok (V i (upd x i g))
          cases hod : o.dst with
          | none => rw [hod] at h7; exact h7
          | some di =>
            rw [hod] at h7
            refine ⟨h7.size, fun t v hv => h7.at_ t v ?_⟩
            have hnt : di ≠ t := by
              intro e; subst e
              refine hdL di hod ?_
              have : ∀ (L : List (Nat × Value)), lk L di = some v → di ∈ L.map (·.1) := by
                intro L
                induction L with
                | nil => intro h; simp [lk] at h
                | cons p L ihL =>
                  intro h
                  obtain ⟨u, y⟩ := p
                  by_cases e : u = di
                  · simp [e]
                  · rw [lk_cons_ne e] at h; simp [ihL h]
              exact this L0 hv
            show lk ((di, _) :: L0) t = some v
            rw [lk_cons_ne hnt]; exact hv
        · exact (put_defers _ _ _).trans hdf
        · have hKS : Kof K S (upd x i g) = Kof K S x := by
            unfold Kof
            rw [List.flatMap_def, List.flatMap_def]
            congr 1
            exact List.map_congr_left fun k hk => (hloc k (hsub k hk) (upd x i g) x (hdc k hk)).2
          have : Kof K (i :: S) (upd x i g) ++ H0 = K i (upd x i g) ++ (Kof K S x ++ H0) := by
            rw [← hKS]; simp [Kof]
          rw [this]
          exact hm2
      by_cases hfr : ∃ f, f ∈ fl ∧ f ∈ Region.ready .any l.toArray listed
      · obtain ⟨f, hff, hfrdy⟩ := hfr
        obtain ⟨hun, o, hoi, hall⟩ := mem_ready.1 hfrdy
        obtain ⟨hfp, hfree⟩ := hflp f hff
        have hilt : f < l.toArray.size := (Array.getElem?_eq_some_iff.1 hoi).1
        have hiS : f ∉ S := by
          intro h
          have h5 := (hSl f).1 h
          have hlt : f < listed.size := by rw [hlc.1]; exact hilt
          simp [hlt] at h5 hun; rw [h5] at hun; cases hun
        obtain ⟨o', ho', hgd, hok, hdL, hed, hdsi, hdn'⟩ := spec f hfp
        obtain rfl : o' = o := Option.some.inj (ho'.symm.trans hoi)
        have hdS : ∀ j ∈ ds f, j ∈ S := fun j hj => (hSl j).2 (reach_listed hlc _ _ _ o' hoi hall (hdsi j hj).2)
        have hagd : Agr n (Lof l.toArray V (ds f) x ++ L0) a := agr_app hag fun p hp => by
          obtain ⟨k, hk, he⟩ := List.mem_filterMap.1 hp
          obtain ⟨d, hd, rfl⟩ := Option.map_eq_some_iff.1 he
          exact htm k (hdS k hk) d hd
        have hwt : Region.wanted o' (yielded l.toArray a.tmps) = true := by unfold Region.wanted; rw [hgd]
        obtain ⟨hy, hK0⟩ := hfl f hff o' hoi x
        have hux : upd x f (x f) = x := by funext j; unfold upd; split <;> simp_all
        refine anyE_quiet (v := V f x) hoi (plainB_spec h1) _ (fun _ => True) listed a w (fun _ _ _ _ => trivial) hlc (fun j oj hj hne' hl he => Region.free_spec hoi hfree j oj hj hne' (by
            have hjl : j < l.toArray.size := (Array.getElem?_eq_some_iff.1 hj).1
            have hnr : reach l.toArray l.toArray.size f j = false := by
              cases hrr : reach l.toArray l.toArray.size f j with
              | false => rfl
              | true =>
                exfalso
                have := reach_listed hlc _ _ _ o' hoi hall hrr
                have hlt : j < listed.size := by rw [hlc.1]; exact hjl
                simp [hlt] at this hl; rw [hl] at this; cases this
            simp only [List.size_toArray] at hjl hnr ⊢
            simp [hjl, hnr]) he) hfrdy (.inl ⟨hwt, fun w' _ => by rw [hy.out a.eval w' hagd.ev trivial]; exact ⟨rfl, Ext.refl _⟩⟩) trivial fun w2 he => ?_
        have := step f o' hfp hiS hoi hdS hfrdy (x f) w2 (by rw [hux, hK0]; exact hmem.ext he)
        rwa [hux] at this
      refine ⟨fun hr => absurd hr hrne, fun i hi => ?_⟩
      obtain ⟨hun, oi, hoi, hall⟩ := mem_ready.1 hi
      have hilt : i < l.toArray.size := (Array.getElem?_eq_some_iff.1 hoi).1
      have hiS : i ∉ S := by
        intro h
        have h5 := (hSl i).1 h
        have hlt : i < listed.size := by rw [hlc.1]; exact hilt
        simp [hlt] at h5 hun; rw [h5] at hun; cases hun
      have hip : i ∈ par := by
        apply Classical.byContradiction
        intro hn
        have hq1 : ∀ q ∈ par, q ∉ fl → q ∈ S := fun q hq hqf => (hSl q).2 (reach_listed hlc _ _ _ oi hoi hall (hout i hilt hn q hq hqf))
        have hq2 : ∀ q, q ∈ par → q ∈ S := by
          intro q
          induction q using Nat.strongRecOn with
          | _ q ihq =>
            intro hq
            by_cases hqf : q ∈ fl
            · apply Classical.byContradiction
              intro hqS
              obtain ⟨o, ho, _, _, _, hed, _, _⟩ := spec q hq
              refine hfr ⟨q, hqf, mem_ready.2 ⟨?_, o, ho, fun e he hb => ?_⟩⟩
              · have hlt : q < listed.size := by rw [hlc.1]; exact (Array.getElem?_eq_some_iff.1 ho).1
                have h5 : ¬ (listed.getD q false = true) := fun h => hqS ((hSl q).2 h)
                simpa [hlt] using h5
              · obtain ⟨q1, q2⟩ := hed e he hb
                exact (hSl _).1 (ihq e.on q2 q1)
            · exact hq1 q hq hqf
        have := List.Nodup.length_le_of_subset hnd hq2
        omega
      obtain ⟨o, ho, hgd, hok, hdL, hed, hdsi, hdn'⟩ := spec i hip
      obtain rfl : o = oi := Option.some.inj (ho.symm.trans hoi)
      have hdS : ∀ j ∈ ds i, j ∈ S := fun j hj => (hSl j).2 (reach_listed hlc _ _ _ o ho hall (hdsi j hj).2)
      have hmd : Mem w0 own (Kof K (ds i) x ++ H0) w := by
        have hp1 : S.Perm (ds i ++ S.filter fun k => !(ds i).contains k) := by
          refine (List.perm_ext_iff_of_nodup hS ?_).2 fun k => ?_
          · refine List.nodup_append.2 ⟨hdn', hS.filter _, fun p hp q hq hpq => ?_⟩
            subst hpq
            have := (List.mem_filter.1 hq).2
            simp [hp] at this
          · simp only [List.mem_append, List.mem_filter, Bool.not_eq_true', List.contains_eq_mem, decide_eq_false_iff_not]
            constructor
            · intro hk
              by_cases hkd : k ∈ ds i
              · exact .inl hkd
              · exact .inr ⟨hk, hkd⟩
            · rintro (hk | hk)
              · exact hdS k hk
              · exact hk.1
        have hp2 : (Kof K S x ++ H0).Perm ((Kof K (ds i) x ++ H0) ++ Kof K (S.filter fun k => !(ds i).contains k) x) := by
          have e1 := (List.Perm.flatMap_right (fun i => K i x) hp1).append_right H0
          rw [List.flatMap_append] at e1
          refine e1.trans ?_
          rw [List.append_assoc, List.append_assoc]
          exact List.Perm.append_left _ List.perm_append_comm
        exact (Mem.perm hp2 hmem).left
      have hagd : Agr n (Lof l.toArray V (ds i) x ++ L0) a := agr_app hag fun p hp => by
        obtain ⟨k, hk, he⟩ := List.mem_filterMap.1 hp
        obtain ⟨d, hd, rfl⟩ := Option.map_eq_some_iff.1 he
        exact htm k (hdS k hk) d hd
      unfold opE wpOpIn
      have hwt : Region.wanted o (yielded l.toArray a.tmps) = true := by unfold Region.wanted; rw [hgd]
      simp only [hoi, hwt, if_true]
      refine ⟨fun f _ => Wide.fn f, ?_⟩
      rw [semAt_of (plainB_spec h1 i o hoi).2]
      refine Eff.upon (((hop i hip o hoi x).out w hmd).out a.eval w hagd.ev rfl) fun g w' hm' => .inr (.inr ⟨fun _ => True, fun _ _ _ _ => trivial, fun _ _ => trivial, trivial, fun w2 he => ?_⟩)
      exact step i o hip hiS hoi hdS hi g w2 ((hmem.call0 hm').ext he)
  refine .mk fun a w s => ?_
  refine wpIn_region_any hm (wpAnyIn_of_anyE _ (fun _ => True) _ _ _ ?_)
  have := key par.length [] (Array.replicate l.length false) a { w with drawn := w.drawn + 1 } (fun _ => (0, none, 0)) List.nodup_nil (fun i => by
      rcases Nat.lt_or_ge i l.length with h' | h'
      · simp [h']
      · simp [h']) (fun _ h => by cases h) ⟨by simp, fun j oj _ hl => by
    rcases Nat.lt_or_ge j l.length with h' | h'
    · simp [h'] at hl
    · simp [h'] at hl⟩ (by simp) (fun _ h => by cases h) s.agr s.dfr (by simpa [Kof] using s.mem.drew)
  rw [h4] at this
  simpa using this
end Go.Mc
