import Derived.Test.Qxb6500680aGreatDoorTyrg
namespace Go.Proofs.Qxb6500680aGreatDoor
open Go.RowKit Go.BigFrame
set_option linter.unusedSimpArgs false
variable {P : Program}
section
variable {sig : Ev} {Γ : List (Option Sh)} {N D base : Nat} {w0 : World} {ops : Array Oper} {Gw : World → Prop}
theorem oneOK_of (h : regOK P sig Γ N ops D = true) {i : Nat} {o : Oper} (hi : ops[i]? = some o) : oneOK P sig Γ N ops D i o = true ∧ (dsts ops.toList).Nodup := by
  simp only [regOK, Bool.and_eq_true, List.all_eq_true] at h
  refine ⟨h.2 (o, i) ?_, nodupB_spec h.1⟩
  rw [List.mem_zipIdx_iff_getElem?]
  simpa using hi
theorem region_step {listed : Nat → Prop} {H : Hp} {a : Act} {w : World} {i : Nat} {K : Act → World → Prop} {Q : Exit → Act → World → Prop} (hsig : SigOK P Gw sig) (hGw : ∀ w, Gr base w0 w → Gw w) (hok : regOK P sig Γ N ops D = true)
    (hr : RI Γ N D base w0 ops listed H a w) (hil : i < ops.size) (hni : ¬ listed i) (hdep : ∀ o, ops[i]? = some o → ∀ e ∈ deps o, listed e)
    (hK : ∀ H' a' w', RI Γ N D base w0 ops (fun j => listed j ∨ j = i) H' a' w' → K a' w') : wpOp P ops Q i K a w := by
  obtain ⟨o, hi⟩ : ∃ o, ops[i]? = some o := ⟨ops[i], Array.getElem?_eq_getElem hil⟩
  obtain ⟨h1, hnd⟩ := oneOK_of hok hi
  have hde := hdep o hi
  have hself : i ∉ deps o := fun e => hni (hde i e)
  simp only [oneOK, Bool.and_eq_true] at h1
  obtain ⟨⟨h1, _⟩, hgu⟩ := h1
  -- another operation's slot is not the one of i
  have hoth : ∀ (j : Nat) (p : Oper) (d : Nat), ops[j]? = some p → p.dst = some d → j ≠ i → o.dst ≠ some d := fun j p d hj hp hne e => hne (dst_inj hnd hj hi hp e)
  have hcl : ∀ (j : Nat) (p : Oper), ops[j]? = some p → (listed j ∨ j = i) → ∀ e ∈ deps p, listed e ∨ e = i := fun j p hj hl e he => by
    rcases hl with hl | rfl
    · exact .inl (hr.cl j p hj hl e he)
    · rw [hi] at hj; simp at hj; subst hj; exact .inl (hde e he)
  have hyi : ∀ (j : Nat) (p : Oper) (g : Nat) (b : Bool) (v : Value), ops[j]? = some p → (listed j ∨ j = i) → p.guard = some (g, b) → yielded ops (a.put o.dst v).tmps g = yielded ops a.tmps g := fun j p g b v hj hl hg => by
    have hgd : g ∈ deps p := by
      obtain ⟨h2, _⟩ := oneOK_of hok hj
      simp only [oneOK, Bool.and_eq_true] at h2
      have h3 := h2.2
      rw [hg] at h3
      simp only [Bool.and_eq_true, List.any_eq_true, beq_iff_eq] at h3
      obtain ⟨⟨⟨x, hx, rfl⟩, _⟩, _⟩ := h3
      exact hx
    have hgi : g ≠ i := fun e => by
      subst e
      rcases hl with hl | rfl
      · exact hni (hr.cl j p hj hl g hgd)
      · rw [hi] at hj; simp at hj; subst hj; exact hself hgd
    exact yielded_put fun q d hq hd => hoth g q d hq hd hgi
  simp only [wpOp, hi]
  split
  · rename_i hwant
    have hgd : ∀ g b, o.guard = some (g, b) → yielded ops a.tmps g = some b := fun g b hg => by
      simp only [Region.wanted, hg, beq_iff_eq] at hwant
      exact hwant
    have hex : ∃ r, opTyAt P sig Γ ops D o = some r := by
      split at h1
      · exact ⟨_, by assumption⟩
      · exact ⟨_, by assumption⟩
      · cases h1
    obtain ⟨r, hrr⟩ := hex
    refine .inl (opAt_sound hsig (hGw w hr.gr) hr hde hgd hrr K Q fun H' w' v hl hw hg hv => hK H' _ w' ?_)
    have hnew : ∀ d, o.dst = some d → Typed Γ H' (a.put o.dst v) d := fun d hd => by
      rw [hrr, hd] at h1
      split at h1
      · rename_i s d' e1 e2
        simp at e1 e2
        subst e1
        subst e2
        simp only [Bool.and_eq_true, decide_eq_true_eq] at h1
        obtain ⟨h2, h3⟩ := h1
        split at h2
        · rename_i t ht
          obtain rfl := Sh.is_eq h2
          exact ⟨t, v, ht, by rw [hd]; exact put_same (by rw [hr.sz]; exact h3), hv t rfl⟩
        · cases h2
      · rename_i e1 e2; simp at e2
      · cases h1
    refine ⟨hw, hg, by rw [put_size.1]; exact hr.sz, by rw [put_size.2]; exact hr.df, fun s hs => ?_, fun j p d hj hl hd hgr => ?_, hcl⟩
    · by_cases e : o.dst = some s
      · exact hnew s e
      · exact ((hr.old s hs).le ‹_›).put e
    · rcases hl with hl | rfl
      · have hji : j ≠ i := fun e => hni (e ▸ hl)
        refine ((hr.new j p d hj hl hd fun g b hg => ?_).le ‹_›).put (hoth j p d hj hd hji)
        rw [← hyi j p g b v hj (.inl hl) hg]
        exact hgr g b hg
      · rw [hi] at hj
        simp at hj
        subst hj
        exact hnew d hd
  · rename_i hwant
    refine hK H _ w ⟨hr.wt, hr.gr, by rw [put_size.1]; exact hr.sz, by rw [put_size.2]; exact hr.df, fun s hs => ?_, fun j p d hj hl hd hgr => ?_, hcl⟩
    · refine (hr.old s hs).put fun e => ?_
      cases hg : o.guard with
      | none => simp [Region.wanted, hg] at hwant
      | some gb =>
        rw [hg, e] at hgu
        simp [hs] at hgu
    · rcases hl with hl | rfl
      · have hji : j ≠ i := fun e => hni (e ▸ hl)
        refine (hr.new j p d hj hl hd fun g b hg => ?_).put (hoth j p d hj hd hji)
        rw [← hyi j p g b undef hj (.inl hl) hg]
        exact hgr g b hg
      · rw [hi] at hj
        simp at hj
        subst hj
        exfalso
        cases hg : o.guard with
        | none => simp [Region.wanted, hg] at hwant
        | some gb =>
          obtain ⟨g, b⟩ := gb
          have h5 := hgr g b hg
          rw [hyi j o g b undef hi (.inr rfl) hg] at h5
          simp [Region.wanted, hg, h5] at hwant
/-- All is done: what stands behind the region. -/
theorem regD_typed {H : Hp} {a : Act} {w : World} (hr : RI Γ N D base w0 ops (fun j => j < ops.size) H a w) : ∀ s, (regD ops.toList D).testBit s = true → Typed Γ H a s := by
  have key : ∀ (l : List Oper) (E : Nat), (∀ p ∈ l, ∃ j : Nat, ops[j]? = some p) → (∀ s, E.testBit s = true → Typed Γ H a s) → ∀ s, (regD l E).testBit s = true → Typed Γ H a s := by
    intro l
    induction l with
    | nil => intro E _ hE s hs; exact hE s hs
    | cons p l ih =>
      intro E hp hE s hs
      simp only [regD, List.foldl_cons] at hs
      refine ih _ (fun q hq => hp q (by simp [hq])) (fun s hs => ?_) s hs
      split at hs
      · rename_i d hg hd
        rw [Nat.testBit_or] at hs
        simp only [Bool.or_eq_true] at hs
        rcases hs with hs | hs
        · exact hE s hs
        · rw [Nat.shiftLeft_eq, Nat.one_mul, Nat.testBit_two_pow] at hs
          simp at hs
          subst hs
          obtain ⟨j, hj⟩ := hp p (by simp)
          exact hr.new j p d hj (Array.getElem?_eq_some_iff.1 hj).1 hd (fun g b e => by rw [hg] at e; cases e)
      · exact hE s hs
  exact key ops.toList D (fun p hp => by
    obtain ⟨j, hj⟩ := List.mem_iff_getElem?.1 hp
    exact ⟨j, by simpa using hj⟩) hr.old
theorem RI.of {listed listed' : Nat → Prop} {H : Hp} {a : Act} {w : World} (h : RI Γ N D base w0 ops listed H a w) (e : ∀ j, j < ops.size → (listed j ↔ listed' j)) (he : ∀ (j : Nat) (o : Oper), ops[j]? = some o → ∀ e ∈ deps o, e < ops.size) : RI Γ N D base w0 ops listed' H a w :=
  ⟨h.wt, h.gr, h.sz, h.df, h.old, fun j o d hj hl => h.new j o d hj ((e j (Array.getElem?_eq_some_iff.1 hj).1).2 hl), fun j o hj hl x hx => (e x (he j o hj x hx)).1 (h.cl j o hj ((e j (Array.getElem?_eq_some_iff.1 hj).1).2 hl) x hx)⟩
theorem deps_lt (hok : regOK P sig Γ N ops D = true) {j : Nat} {o : Oper} (hj : ops[j]? = some o) : ∀ e ∈ deps o, e < j := by
  obtain ⟨h1, _⟩ := oneOK_of hok hj
  simp only [oneOK, Bool.and_eq_true, List.all_eq_true, decide_eq_true_eq] at h1
  exact h1.1.2
theorem countP_lt {p q : Nat → Bool} (hpq : ∀ x, p x = true → q x = true) {i : Nat} (hq : q i = true) (hp : p i = false) : ∀ {l : List Nat}, i ∈ l → l.countP p < l.countP q
  | x :: l, hm => by
    have hle : l.countP p ≤ l.countP q := List.countP_mono_left fun y _ => hpq y
    rw [List.countP_cons, List.countP_cons]
    rcases List.mem_cons.1 hm with rfl | hm
    · simp [hq, hp]; omega
    · have := countP_lt hpq hq hp hm
      have hx : (if p x = true then 1 else 0) ≤ (if q x = true then 1 else 0) := by
        by_cases h : p x = true
        · simp [h, hpq x h]
        · simp [h]
      omega
/-- The text's order. -/
theorem ops_sound {Q : Exit → Act → World → Prop} (hsig : SigOK P Gw sig) (hGw : ∀ w, Gr base w0 w → Gw w) (hok : regOK P sig Γ N ops D = true) (hQ : ∀ H a w, RI Γ N D base w0 ops (fun j => j < ops.size) H a w → Q .normal a w) :
    ∀ (n i : Nat) (H : Hp) (a : Act) (w : World), i + n = ops.size → RI Γ N D base w0 ops (fun j => j < i) H a w → wpOps P ops Q (List.range' i n) a w
  | 0, i, H, a, w, hn, hr => by
    simp only [List.range'_zero, wpOps]
    have : i = ops.size := by omega
    subst this
    exact hQ H a w hr
  | n + 1, i, H, a, w, hn, hr => by
    rw [List.range'_succ, wpOps_cons]
    refine region_step hsig hGw hok hr (by omega) (by omega) (fun o ho e he => deps_lt hok ho e he) fun H' a' w' hr' => ?_
    exact ops_sound hsig hGw hok hQ n (i + 1) H' a' w' (by omega) (hr'.of (fun j hj => by omega) (fun j o hj e he => by have := deps_lt hok hj e he; have := (Array.getElem?_eq_some_iff.1 hj).1; omega))
/-- Whatever order is drawn. -/
theorem any_sound {Q : Exit → Act → World → Prop} (hsig : SigOK P Gw sig) (hGw : ∀ w, Gr base w0 w → Gw w) (hok : regOK P sig Γ N ops D = true) (hQ : ∀ H a w, RI Γ N D base w0 ops (fun j => j < ops.size) H a w → Q .normal a w) :
    ∀ (fuel : Nat) (listed : Array Bool) (H : Hp) (a : Act) (w : World), listed.size = ops.size → (List.range ops.size).countP (fun j => !listed.getD j true) ≤ fuel → RI Γ N D base w0 ops (fun j => listed.getD j false = true) H a w → wpAny P .any ops Q fuel listed a w := by
  have hlt : ∀ (j : Nat) (o : Oper), ops[j]? = some o → ∀ e ∈ deps o, e < ops.size := fun j o hj e he => by have := deps_lt hok hj e he; have := (Array.getElem?_eq_some_iff.1 hj).1; omega
  have hgd : ∀ (l : Array Bool) (j : Nat), l.size = ops.size → j < ops.size → l.getD j true = l.getD j false := fun l j hl hj => by simp [Array.getD, hl, hj]
  have hrdy : ∀ (listed : Array Bool) (i : Nat), i ∈ Region.ready .any ops listed → i < ops.size ∧ listed.getD i true = false ∧ ∀ o, ops[i]? = some o → ∀ e ∈ deps o, listed.getD e false = true := fun listed i hi => by
    simp only [Region.ready, List.mem_filter, List.mem_range, Bool.and_eq_true] at hi
    obtain ⟨h1, h2, h3⟩ := hi
    refine ⟨h1, by simpa using h2, fun o ho e he => ?_⟩
    rw [ho] at h3
    simp only [Option.map_some, Option.getD_some, Array.all_eq_true_iff_forall_mem] at h3
    simp only [deps, List.mem_map, List.mem_filter] at he
    obtain ⟨x, ⟨hx1, hx2⟩, rfl⟩ := he
    have := h3 x (by simpa using hx1)
    simpa [hx2] using this
  have hdone : ∀ (listed : Array Bool), listed.size = ops.size → Region.ready .any ops listed = [] → ∀ j, j < ops.size → listed.getD j false = true := fun listed hl hr0 => by
    intro j
    induction j using Nat.strongRecOn with
    | _ j ih =>
      intro hj
      apply Classical.byContradiction
      intro hn
      have : j ∈ Region.ready .any ops listed := by
        simp only [Region.ready, List.mem_filter, List.mem_range, Bool.and_eq_true]
        refine ⟨hj, by rw [hgd listed j hl hj]; simpa using hn, ?_⟩
        obtain ⟨o, ho⟩ : ∃ o, ops[j]? = some o := ⟨ops[j], Array.getElem?_eq_getElem hj⟩
        rw [ho]
        simp only [Option.map_some, Option.getD_some, Array.all_eq_true_iff_forall_mem]
        intro x hx
        by_cases hb : Region.binds .any x = true
        · have hxd : x.on ∈ deps o := List.mem_map.2 ⟨x, List.mem_filter.2 ⟨by simpa using hx, hb⟩, rfl⟩
          have h5 := deps_lt hok ho x.on hxd
          simp [ih x.on h5 (by omega)]
        · simp at hb; simp [hb]
      rw [hr0] at this
      simp at this
  intro fuel
  induction fuel with
  | zero =>
    intro listed H a w hl hc hr
    have hno : Region.ready .any ops listed = [] := by
      apply List.eq_nil_iff_forall_not_mem.2
      intro i hi
      obtain ⟨h1, h2, _⟩ := hrdy listed i hi
      have h3 : 0 < (List.range ops.size).countP (fun j => !listed.getD j true) := List.countP_pos_iff.2 ⟨i, by simpa using h1, by simp [h2]⟩
      omega
    exact ⟨hno, hQ H a w (hr.of (fun j hj => ⟨fun _ => hj, fun _ => hdone listed hl hno j hj⟩) hlt)⟩
  | succ fuel ih =>
    intro listed H a w hl hc hr
    refine ⟨fun hno => hQ H a w (hr.of (fun j hj => ⟨fun _ => hj, fun _ => hdone listed hl hno j hj⟩) hlt), fun i hi => ?_⟩
    obtain ⟨h1, h2, h3⟩ := hrdy listed i hi
    refine region_step hsig hGw hok hr h1 (by rw [← hgd listed i hl h1]; simp [h2]) h3 fun H' a' w' hr' => ?_
    refine ih _ H' a' w' (by simpa using hl) ?_ (hr'.of (fun j hj => ?_) hlt)
    · have hlt2 : (List.range ops.size).countP (fun j => !(listed.setIfInBounds i true).getD j true) < (List.range ops.size).countP (fun j => !listed.getD j true) := by
        refine countP_lt (i := i) (fun x hx => ?_) (by simp [h2]) (by simp [Array.getD, hl, h1]) (by simpa using h1)
        by_cases e : x = i
        · subst e; simp [h2]
        · rw [getD_set_ne true (fun h => e h.symm)] at hx; exact hx
      omega
    · by_cases e : j = i
      · subst e
        simp [Array.getD, hl, hj]
      · rw [getD_set_ne false (fun h => e h.symm)]
        simp [e]
end
end Go.Proofs.Qxb6500680aGreatDoor
