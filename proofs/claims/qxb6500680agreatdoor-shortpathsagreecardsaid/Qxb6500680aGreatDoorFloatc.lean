import Derived.Test.Qxb6500680aGreatDoorFloat
namespace Go.Proofs.Qxb6500680aGreatDoor
open Go.RowKit

/-! As Float, where the tail waits for the head through other operations of the head. -/
section
variable {P : Program} {ops ops1 : Array Oper} {Q : Exit → Act → World → Prop} {w0 : World}
/-- THE INTERLEAVING. -/
theorem wpAny_floatc {n m : Nat} {fl : List Flt} {Qh : Act → Prop} (h1 : ops1.size = n) (hnm : n ≤ m) (hm : m ≤ ops.size) (hag : ∀ i, i < n → ops1[i]? = ops[i]?) (hs : Region.noSelect ops1 = true)
    (hedge : ∀ i o, ops1[i]? = some o → ∀ e ∈ o.after, Region.binds .any e = true → e.on < i)
    (hguard : ∀ (i : Nat) (o : Oper) (g : Nat) (b : Bool), ops1[i]? = some o → o.guard = some (g, b) → g < n)
    (hin : (fl.map (·.idx)).Nodup) (hdn : (fl.map (·.dst)).Nodup)
    (hlook : ∀ (i : Nat) (o : Oper), ops1[i]? = some o → ∀ q ∈ fl, q.dst ∉ o.looksAt ops1 ∧ o.dst ≠ some q.dst)
    (hidx : ∀ q ∈ fl, n ≤ q.idx ∧ q.idx < m) (hall : ∀ i, n ≤ i → i < m → ∃ q ∈ fl, q.idx = i)
    (hflt : ∀ q ∈ fl, ∃ o, ops[q.idx]? = some o ∧ o.dst = some q.dst ∧ o.guard = none ∧ o.after = #[] ∧ ∀ (a : Act) (W : World), (execOp a.eval o).run P W = .ok (.value (.pointer (some ⟨W.heap.size, 0, none⟩))) (W.alloc q.obj))
    (htail : ∀ t o, m ≤ t → ops[t]? = some o → (∃ t', m ≤ t' ∧ ∃ e ∈ o.after, Region.binds .any e = true ∧ e.on = t') ∨ ∀ j, j < m → (∃ e ∈ o.after, Region.binds .any e = true ∧ e.on = j) ∨ ∃ j' o', j < j' ∧ j' < n ∧ ops[j']? = some o' ∧ ∃ e ∈ o'.after, Region.binds .any e = true ∧ e.on = j)
    (hfin : ∀ a b W, Qh a → Made fl (fun _ => true) b w0 W → wpAny P .any ops Q (ops.size - m) ((Array.replicate m true) ++ (Array.replicate (ops.size - m) false)) (actOf fl (fun _ => true) b a) W) :
    ∀ (g f : Nat) (listed listed1 : Array Bool) (done : Nat → Bool) (b : Nat → Nat) (a : Act) (W : World), f + und fl done ≤ g → listed.size = ops.size → listed1.size = n →
      (∀ i, i < n → listed.getD i false = listed1.getD i false) → (∀ q ∈ fl, listed.getD q.idx false = done q.idx) → (∀ t, m ≤ t → listed.getD t false = false) →
      (∀ j o, j < n → ops[j]? = some o → listed.getD j false = true → ∀ e ∈ o.after, Region.binds .any e = true → listed.getD e.on false = true) → wpAnyC P .any ops1 w0 Qh f listed1 a → Made fl done b w0 W → wpAny P .any ops Q (g + (ops.size - m)) listed (actOf fl done b a) W := by
  have hsel := Region.noSelect_spec hs
  have hsub : ∀ (listed listed1 : Array Bool), listed1.size = n → listed.size = ops.size → (∀ i, i < n → listed.getD i false = listed1.getD i false) → ∀ i, i < n →
      (i ∈ Region.ready .any ops listed ↔ i ∈ Region.ready .any ops1 listed1) := by
    intro listed listed1 hs1 hs h2 i hi
    rw [mem_ready, mem_ready, hag i hi]
    have eT : listed.getD i true = listed1.getD i true := by
      have := h2 i hi
      have a1 : i < listed.size := by omega
      have a2 : i < listed1.size := by omega
      simp [a1, a2] at this ⊢; exact this
    rw [eT]
    constructor
    · rintro ⟨g1, o, ho, g2⟩
      refine ⟨g1, o, ho, fun e he hb => ?_⟩
      rw [← h2 e.on (by have := hedge i o (by rw [hag i hi]; exact ho) e he hb; omega)]
      exact g2 e he hb
    · rintro ⟨g1, o, ho, g2⟩
      refine ⟨g1, o, ho, fun e he hb => ?_⟩
      rw [h2 e.on (by have := hedge i o (by rw [hag i hi]; exact ho) e he hb; omega)]
      exact g2 e he hb
  -- all have come up but the tail
  have hend : ∀ (g f : Nat) (listed listed1 : Array Bool) (done : Nat → Bool) (b : Nat → Nat) (a : Act) (W : World), listed.size = ops.size → listed1.size = n →
      (∀ i, i < n → listed.getD i false = listed1.getD i false) → (∀ q ∈ fl, listed.getD q.idx false = done q.idx) → (∀ t, m ≤ t → listed.getD t false = false) →
      wpAnyC P .any ops1 w0 Qh f listed1 a → Made fl done b w0 W → Region.ready .any ops1 listed1 = [] → (∀ q ∈ fl, done q.idx = true) → wpAny P .any ops Q (g + (ops.size - m)) listed (actOf fl done b a) W := by
    intro g f listed listed1 done b a W hs0 hs1 h2 h3 h4 hC hM hr hd
    have hl1 := all_listed h1 hedge hs1 hr
    have hq : Qh a := by cases f with | zero => exact hC.2 | succ f => exact hC.1 hr
    have hfull : listed = (Array.replicate m true) ++ (Array.replicate (ops.size - m) false) := by
      apply Array.ext
      · simp; omega
      · intro i hi hi'
        have e1 : listed.getD i false = listed[i] := by simp [hi]
        rw [← e1]
        by_cases hin : i < m
        · have : listed.getD i false = true := by
            by_cases hi2 : i < n
            · rw [h2 i hi2, hl1 i hi2]
            · obtain ⟨q, hq, hqi⟩ := hall i (by omega) hin
              rw [← hqi, h3 q hq, hd q hq]
          rw [this, Array.getElem_append_left (by simpa using hin)]; simp
        · rw [h4 i (by omega), Array.getElem_append_right (by simpa using hin)]; simp
    have hact : actOf fl done b a = actOf fl (fun _ => true) b a := actOf_same fl (fun _ => true) done b b a (fun q hq => ⟨hd q hq, rfl⟩)
    have hM' : Made fl (fun _ => true) b w0 W := ⟨hM.1, fun q hq _ => hM.2.1 q hq (hd q hq), fun q hq r hr _ _ hne => hM.2.2 q hq r hr (hd q hq) (hd r hr) hne⟩
    rw [hact, hfull]
    exact wpAny_add (hfin a b W hq hM') g
  intro g
  induction g with
  | zero =>
    intro f listed listed1 done b a W hle hs0 hs1 h2 h3 h4 hcl hC hM
    have hf : f = 0 := by omega
    subst hf
    refine hend 0 0 listed listed1 done b a W hs0 hs1 h2 h3 h4 hC hM hC.1 (fun q hq => ?_)
    have hu : und fl done = 0 := by omega
    unfold und at hu
    have := List.filter_eq_nil_iff.1 (List.length_eq_zero_iff.1 hu) q hq
    simpa using this
  | succ g ih =>
    intro f listed listed1 done b a W hle hs0 hs1 h2 h3 h4 hcl hC hM
    by_cases hD : Region.ready .any ops1 listed1 = [] ∧ ∀ q ∈ fl, done q.idx = true
    · exact hend (g + 1) f listed listed1 done b a W hs0 hs1 h2 h3 h4 hC hM hD.1 hD.2
    -- something of the head, or a variable, has not come up
    have hopen : ∃ k, k < m ∧ listed.getD k false = false ∧ k ∈ Region.ready .any ops listed := by
      by_cases hr : Region.ready .any ops1 listed1 = []
      · have : ∃ q, q ∈ fl ∧ done q.idx = false := by
          apply Classical.byContradiction
          intro hno
          apply hD
          refine ⟨hr, fun q hq => ?_⟩
          cases hdq : done q.idx with
          | true => rfl
          | false => exact absurd ⟨q, hq, hdq⟩ hno
        obtain ⟨q, hq, hdq⟩ := this
        obtain ⟨o, ho, _, _, hafter, _⟩ := hflt q hq
        have hlt := hidx q hq
        have hl : listed.getD q.idx false = false := by rw [h3 q hq, hdq]
        exact ⟨q.idx, hlt.2, hl, mem_ready.2 ⟨getD_in (by omega) hl, o, ho, fun e he => by rw [hafter] at he; simp at he⟩⟩
      · obtain ⟨k, hk⟩ := List.exists_mem_of_ne_nil _ hr
        have hkn : k < n := by
          obtain ⟨_, o, ho, _⟩ := mem_ready.1 hk
          have := (Array.getElem?_eq_some_iff.1 ho).1
          omega
        exact ⟨k, by omega, by rw [h2 k hkn]; exact getD_both (mem_ready.1 hk).1, (hsub listed listed1 hs1 hs0 h2 k hkn).2 hk⟩
    obtain ⟨k, hkm, hkl, hkr⟩ := hopen
    rw [show g + 1 + (ops.size - m) = (g + (ops.size - m)) + 1 by omega]
    refine ⟨fun h0 => (by rw [h0] at hkr; cases hkr), fun i hi => ?_⟩
    have him : i < m := by
      rcases Nat.lt_or_ge i m with h | h
      · exact h
      · obtain ⟨_, o, ho, hall'⟩ := mem_ready.1 hi
        exfalso
        rcases htail i o h ho with ⟨t', ht', e, he, hb', hon⟩ | hd
        · have := hall' e he hb'
          rw [hon, h4 t' ht'] at this
          cases this
        · have down : ∀ r j, j < m → m - j ≤ r → listed.getD j false = true := by
            intro r
            induction r with
            | zero => intro j hj hr; omega
            | succ r ihr =>
              intro j hj hr
              rcases hd j hj with ⟨e, he, hb', hon⟩ | ⟨j', o', h1', h2', ho', e, he, hb', hon⟩
              · have := hall' e he hb'
                rw [hon] at this
                exact this
              · have := hcl j' o' h2' ho' (ihr j' (by omega) (by omega)) e he hb'
                rw [hon] at this
                exact this
          have := down m k hkm (by omega)
          rw [hkl] at this
          cases this
    have hup : ∀ i, i < n ∨ n ≤ i → i ∈ Region.ready .any ops listed → ∀ j o, j < n → ops[j]? = some o → (listed.setIfInBounds i true).getD j false = true → ∀ e ∈ o.after, Region.binds .any e = true → (listed.setIfInBounds i true).getD e.on false = true := by
      intro i _ hri j o hj ho hlj e he hbe
      have up : listed.getD e.on false = true → (listed.setIfInBounds i true).getD e.on false = true := by
        intro hu
        by_cases hie : i = e.on
        · subst hie
          have a2 : e.on < listed.size := by
            rcases Nat.lt_or_ge e.on listed.size with h | h
            · exact h
            · simp [h] at hu
          simp [a2]
        · rw [getD_set_ne false hie]; exact hu
      by_cases hij : i = j
      · subst hij
        obtain ⟨_, o2, ho2, hall⟩ := mem_ready.1 hri
        have : o2 = o := Option.some.inj (ho2.symm.trans ho)
        subst this
        exact up (hall e he hbe)
      · rw [getD_set_ne false hij] at hlj
        exact up (hcl j o hj ho hlj e he hbe)
    rcases Nat.lt_or_ge i n with hin' | hin'
    · -- an operation of the head
      have hi1 := (hsub listed listed1 hs1 hs0 h2 i hin').1 hi
      cases f with
      | zero => rw [hC.1] at hi1; cases hi1
      | succ f =>
        obtain ⟨o, ho, hcase⟩ := hC.2 i hi1
        have ho' : ops[i]? = some o := by rw [← hag i hin']; exact ho
        have hnl := fun q hq => (hlook i o ho q hq).1
        obtain ⟨ex, wa⟩ := execOp_actOf (ops := ops1) o (fun cs b => hsel i o cs b ho) fl done b a hnl
        have hwant : Region.wanted o (yielded ops (actOf fl done b a).tmps) = Region.wanted o (yielded ops1 a.tmps) := by
          rw [← wa]
          unfold Region.wanted
          cases hgd : o.guard with
          | none => rfl
          | some gb =>
            obtain ⟨g', b'⟩ := gb
            have := hag g' (hguard i o g' b' ho hgd)
            simp only [yielded, this]
        have hnext : ∀ (v : Value) (W' : World), wpAnyC P .any ops1 w0 Qh f (listed1.setIfInBounds i true) (a.put o.dst v) → Made fl done b w0 W' →
            wpAny P .any ops Q (g + (ops.size - m)) (listed.setIfInBounds i true) ((actOf fl done b a).put o.dst v) W' := by
          intro v W' hc hM'
          rw [actOf_put fl done b a o.dst v (fun q hq => (hlook i o ho q hq).2)]
          refine ih f (listed.setIfInBounds i true) (listed1.setIfInBounds i true) done b (a.put o.dst v) W' (by omega) (by simp [hs0]) (by simp [hs1]) (fun j hj => ?_) (fun q hq => ?_) (fun t ht => by rw [getD_set_ne false (by omega)]; exact h4 t ht) (hup i (.inl hin') hi) hc hM'
          · by_cases hij : i = j
            · subst hij
              have a1 : i < listed.size := by omega
              have a2 : i < listed1.size := by omega
              simp [a1, a2]
            · rw [getD_set_ne false hij, getD_set_ne false hij]; exact h2 j hj
          · have := (hidx q hq).1
            rw [getD_set_ne false (by omega)]; exact h3 q hq
        unfold wpOp
        rw [ho']
        simp only
        rw [hwant]
        rcases hcase with ⟨hw, v, hv, hk⟩ | ⟨hw, hk⟩
        · rw [if_pos hw]
          left
          have hM0 := hM
          obtain ⟨⟨x, rfl⟩, _, _⟩ := hM
          refine wp_of_calm (v := v) (fun x' => by rw [ex]; exact hv x') (fun y => hnext v _ hk ?_)
          exact hM0.ext y
        · rw [if_neg (by rw [hw]; exact Bool.false_ne_true)]
          exact hnext undef W hk hM
    · -- a variable is made
      obtain ⟨q, hq, hqi⟩ := hall i hin' him
      subst hqi
      obtain ⟨o, ho, hdst, hgd, hafter, hrun⟩ := hflt q hq
      have hdq : done q.idx = false := by
        rw [← h3 q hq]; exact getD_both (mem_ready.1 hi).1
      unfold wpOp
      rw [ho]
      simp only
      rw [if_pos (by simp [Region.wanted, hgd])]
      left
      unfold Oper.wp
      rw [hrun, Oper.upon_value, hdst, ← actOf_done fl done b a W.heap.size q hq hin hdn hdq]
      have hu := und_done fl done q hq hin hdq
      have hqx := hidx q hq
      refine ih f (listed.setIfInBounds q.idx true) listed1 (setB done q.idx) (setN b q.idx W.heap.size) a (W.alloc q.obj) (by omega) (by simp [hs0]) hs1 (fun j hj => by rw [getD_set_ne false (by omega)]; exact h2 j hj) (fun r hr => ?_)
        (fun t ht => by rw [getD_set_ne false (by omega)]; exact h4 t ht) (hup q.idx (.inr hin') hi) hC (hM.alloc q hin hq)
      by_cases e : r.idx = q.idx
      · have a1 : q.idx < listed.size := by omega
        rw [e]; simp [setB, a1]
      · rw [getD_set_ne false (fun h => e h.symm)]
        simp only [setB, e, if_false]
        exact h3 r hr
end

def floatC (ops : Array Oper) (n m : Nat) (ds : List (Nat × Tmp)) : Bool :=
  decide (n ≤ m) && decide (m ≤ ops.size) && decide (n + ds.length ≤ m) &&
  ((List.range n).all fun i => match ops[i]? with
    | some o => (o.after.all fun e => !Region.binds .any e || decide (e.on < i)) && (match o.guard with | some (g, _) => decide (g < n) | none => true) &&
        ds.all fun q => !(o.looksAt ops).contains q.2 && o.dst != some q.2
    | none => false) &&
  (ds.all fun q => decide (n ≤ q.1) && decide (q.1 < m) && (match ops[q.1]? with | some o => o.dst == some q.2 && o.guard.isNone && o.after.isEmpty | none => false)) &&
  decide ((ds.map (·.1)).Nodup) && decide ((ds.map (·.2)).Nodup) &&
  ((List.range m).all fun i => decide (i < n) || ds.any fun q => q.1 == i) &&
  ((List.range ops.size).all fun t => decide (t < m) || ((List.range ops.size).any fun t' => decide (m ≤ t') && Region.waitsFor .any ops t t') || (List.range m).all fun j => Region.waitsFor .any ops t j || (List.range n).any fun j' => decide (j < j') && Region.waitsFor .any ops j' j) &&
  Region.seqB .any ops (ops.size - m) m ((Array.replicate m true) ++ (Array.replicate (ops.size - m) false))

theorem wp_region_floatc {P : Program} {id : Nat} {Q : Exit → Act → World → Prop} {a : Act} {w : World} {l : List Oper} (n m : Nat) (fl : List Flt) (hm : P.follows .mixedOrders = true)
    (hB : Region.lexB .any (l.take n).toArray = true) (hF : floatC l.toArray n m (fl.map fun q => (q.idx, q.dst)) = true)
    (hz : ∀ q ∈ fl, ∀ o, l[q.idx]? = some o → ∀ (a : Act) (W : World), (execOp a.eval o).run P W = .ok (.value (.pointer (some ⟨W.heap.size, 0, none⟩))) (W.alloc q.obj))
    (h : wpCalm P (l.take n).toArray w (fun a' => ∀ b W, Made fl (fun _ => true) b w W → wpList P l.toArray Q (l.drop m) (actOf fl (fun _ => true) b a') W) (l.take n) a) : (Code.region id l.toArray true).wp P Q a w := by
  simp only [floatC, Bool.and_eq_true, decide_eq_true_eq, List.all_eq_true, List.mem_range] at hF
  obtain ⟨⟨⟨⟨⟨⟨⟨⟨⟨hnm, hml⟩, hlen0⟩, hH⟩, hfl⟩, hn1⟩, hn2⟩, hcov⟩, hT⟩, hS⟩ := hF
  simp only [Region.lexB, Bool.and_eq_true] at hB
  have hn : n ≤ l.toArray.size := by omega
  have hsz : (l.take n).toArray.size = n := by simp at hn ⊢; omega
  have hag : ∀ i, i < n → (l.take n).toArray[i]? = l.toArray[i]? := fun i hi => by simp [hi]
  have hop : ∀ i o, (l.take n).toArray[i]? = some o → i < n ∧ l.toArray[i]? = some o := fun i o ho => by
    have h1 := (Array.getElem?_eq_some_iff.1 ho).1
    rw [hsz] at h1
    exact ⟨h1, by rw [← hag i h1]; exact ho⟩
  have hhead : ∀ (i : Nat) (o : Oper), (l.take n).toArray[i]? = some o → (o.after.all fun e => !Region.binds .any e || decide (e.on < i)) = true ∧ (∀ g b, o.guard = some (g, b) → g < n) ∧ ∀ q ∈ fl, q.dst ∉ o.looksAt l.toArray ∧ o.dst ≠ some q.dst := by
    intro i o ho
    obtain ⟨hi, ho'⟩ := hop i o ho
    have := hH i hi
    rw [ho'] at this
    simp only [Bool.and_eq_true] at this
    refine ⟨this.1.1, fun g b hg => ?_, fun q hq => ?_⟩
    · have h2 := this.1.2
      rw [hg] at h2
      simpa using h2
    · have h2 := List.all_eq_true.1 this.2 (q.idx, q.dst) (List.mem_map.2 ⟨q, hq, rfl⟩)
      simp only [Bool.and_eq_true, Bool.not_eq_true', bne_iff_ne, ne_eq] at h2
      refine ⟨?_, h2.2⟩
      have h3 := h2.1
      intro hmem
      rw [List.contains_iff_mem.2 hmem] at h3
      cases h3
  refine wp_region_any hm ?_
  have HC := wpAnyC_lex (P := P) (md := .any) (w0 := w) hB.1 (l.take n) 0 (Array.replicate (l.take n).toArray.size false) a (by simp) (by simpa using hB.2) h
  have hlen : (l.take n).length = n := by simpa using hsz
  rw [hlen] at HC
  have hund : n + und fl (fun _ => false) ≤ m := by
    have h1 : und fl (fun _ => false) = fl.length := by
      unfold und
      simp
    rw [h1]
    simpa using hlen0
  have hmem : ∀ q ∈ fl, (q.idx, q.dst) ∈ fl.map fun q => (q.idx, q.dst) := fun q hq => List.mem_map.2 ⟨q, hq, rfl⟩
  have hfl' : ∀ q ∈ fl, (n ≤ q.idx ∧ q.idx < m) ∧ ∃ o, l.toArray[q.idx]? = some o ∧ o.dst = some q.dst ∧ o.guard = none ∧ o.after = #[] := by
    intro q hq
    have h1 := hfl _ (hmem q hq)
    simp only at h1
    refine ⟨h1.1, ?_⟩
    have h2 := h1.2
    cases ho : l.toArray[q.idx]? with
    | none => rw [ho] at h2; cases h2
    | some o =>
      rw [ho] at h2
      simp only [Bool.and_eq_true, beq_iff_eq, Option.isNone_iff_eq_none, Array.isEmpty_iff] at h2
      exact ⟨o, rfl, h2.1.1, h2.1.2, h2.2⟩
  have H := wpAny_floatc (P := P) (ops := l.toArray) (ops1 := (l.take n).toArray) (Q := Q) (w0 := w) (n := n) (m := m) (fl := fl)
    (Qh := fun a' => ∀ b W, Made fl (fun _ => true) b w W → wpList P l.toArray Q (l.drop m) (actOf fl (fun _ => true) b a') W) hsz hnm hml hag hB.1
    (fun i o ho e he hb => by
      have h2 := Array.all_eq_true_iff_forall_mem.1 (hhead i o ho).1 e he
      simpa [hb] using h2)
    (fun i o g b ho hg => (hhead i o ho).2.1 g b hg)
    (by simpa [List.map_map, Function.comp_def] using hn1) (by simpa [List.map_map, Function.comp_def] using hn2)
    (fun i o ho q hq => by rw [looksAt_take l n o (hhead i o ho).2.1]; exact (hhead i o ho).2.2 q hq)
    (fun q hq => (hfl' q hq).1)
    (fun i h1 h2 => by
      have := hcov i h2
      simp only [Bool.or_eq_true, decide_eq_true_eq] at this
      rcases this with h3 | h3
      · omega
      · obtain ⟨p, hp, he⟩ := List.any_eq_true.1 h3
        obtain ⟨q, hq, rfl⟩ := List.mem_map.1 hp
        exact ⟨q, hq, by simpa using he⟩)
    (fun q hq => by
      obtain ⟨_, o, ho, hd, hg, ha⟩ := hfl' q hq
      exact ⟨o, ho, hd, hg, ha, hz q hq o (by simpa using ho)⟩)
    (fun t o ht ho => by
      have htl : t < l.toArray.size := (Array.getElem?_eq_some_iff.1 ho).1
      have h1 := hT t htl
      simp only [Bool.or_eq_true, decide_eq_true_eq, List.any_eq_true, List.all_eq_true, List.mem_range, Bool.and_eq_true] at h1
      rcases h1 with (h1 | ⟨t', _, h1, h2⟩) | h1
      · omega
      · obtain ⟨o', ho2, e, he, hb, hon⟩ := Region.waitsFor_spec h2
        have : o' = o := Option.some.inj (ho2.symm.trans ho)
        subst this
        exact .inl ⟨t', h1, e, he, hb, hon⟩
      · refine .inr fun j hj => ?_
        rcases h1 j hj with h2 | ⟨j', hj', hlt, h2⟩
        · obtain ⟨o', ho2, e, he, hb, hon⟩ := Region.waitsFor_spec h2
          have : o' = o := Option.some.inj (ho2.symm.trans ho)
          subst this
          exact .inl ⟨e, he, hb, hon⟩
        · obtain ⟨o', ho2, e, he, hb, hon⟩ := Region.waitsFor_spec h2
          exact .inr ⟨j', o', hlt, hj', ho2, e, he, hb, hon⟩)
    (fun a' b W hq hM => by
      have hl : (l.drop m).length = l.toArray.size - m := by simp
      have := wpAny_of_seq (P := P) (md := .any) (ops := l.toArray) (Q' := Q) (l.drop m) m ((Array.replicate m true) ++ (Array.replicate (l.toArray.size - m) false)) (actOf fl (fun _ => true) b a') W (fun j => by simp [List.getElem?_drop]) (by rw [hl]; exact hS) (hq b W hM)
      rwa [hl] at this)
    m n (Array.replicate l.toArray.size false) (Array.replicate (l.take n).toArray.size false) (fun _ => false) (fun _ => 0) a { w with drawn := w.drawn + 1 } hund (by simp) (by simp at hsz ⊢; omega)
    (fun i hi => by rw [getD_replicate_false, getD_replicate_false]) (fun q _ => getD_replicate_false _ _) (fun t _ => getD_replicate_false _ _) (fun j o _ _ hl => by rw [getD_replicate_false] at hl; cases hl) HC
    ⟨ext_of (Below.refl _ w).drew, fun q _ hd => (by cases hd), fun q _ r _ hd => (by cases hd)⟩
  rw [actOf_none, show m + (l.toArray.size - m) = l.toArray.size by omega] at H
  exact H

end Go.Proofs.Qxb6500680aGreatDoor
