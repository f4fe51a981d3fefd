import Derived.Test.Qxb6500680aGreatDoorKit
import Derived.StillTail
namespace Go.Proofs.Qxb6500680aGreatDoor
open Go.RowKit

/-! A region that draws its order: its head (the first n operations) is quiet, its tail waits for the whole head and goes in one order. -/

theorem wpAny_more {P : Program} {md : Region.Mode} {ops : Array Oper} {Q : Exit → Act → World → Prop} : ∀ (f : Nat) (listed : Array Bool) (a : Act) (w : World),
    wpAny P md ops Q f listed a w → wpAny P md ops Q (f + 1) listed a w
  | 0, _, _, _, h => ⟨fun _ => h.2, fun i hi => by rw [h.1] at hi; cases hi⟩
  | f + 1, _, _, _, h => ⟨h.1, fun i hi => wpOp_mono (fun a' w' h' => wpAny_more f _ a' w' h') (h.2 i hi)⟩
theorem wpAny_add {P : Program} {md : Region.Mode} {ops : Array Oper} {Q : Exit → Act → World → Prop} {f : Nat} {listed : Array Bool} {a : Act} {w : World}
    (h : wpAny P md ops Q f listed a w) : ∀ g, wpAny P md ops Q (g + f) listed a w
  | 0 => by rw [Nat.zero_add]; exact h
  | g + 1 => by rw [show g + 1 + f = (g + f) + 1 by omega]; exact wpAny_more _ _ _ _ (wpAny_add h g)

/-- Q with another end. -/
def endBy (F : Act → World → Prop) (Q : Exit → Act → World → Prop) : Exit → Act → World → Prop
  | .normal, a, w => F a w
  | .ret, a, w => Q .ret a w
  | .panic c, a, w => Q (.panic c) a w
  | .exit i, a, w => Q (.exit i) a w
  | .goto l, a, w => Q (.goto l) a w
  | .outgrown, a, w => Q .outgrown a w
theorem wp_endBy {P : Program} {F : Act → World → Prop} {Q : Exit → Act → World → Prop} {o : Oper} {a : Act} {w : World} {K : Act → World → Prop} (h : o.wp P a w K (endBy F Q)) : o.wp P a w K Q := by
  unfold Oper.wp at *
  generalize (execOp a.eval o).run P w = r at *
  cases r with
  | ok n w' =>
    cases n <;> simp only [Oper.upon] at h ⊢ <;> first | exact h | exact Calls.mono h (fun e w'' he => by cases e <;> exact he)
  | halt x w' => cases x <;> simp only [Oper.upon] at h ⊢ <;> exact h

/-- The head's own conditions, and the tail's, as one Bool. -/
def tailB (ops : Array Oper) (n : Nat) : Bool :=
  decide (n ≤ ops.size) &&
  ((List.range n).all fun i => match ops[i]? with
    | some o => (o.after.all fun e => !Region.binds .any e || decide (e.on < i)) && (match o.guard with | some (g, _) => decide (g < n) | none => true)
    | none => false) &&
  ((List.range ops.size).all fun t => decide (t < n) || (List.range n).all fun j => Region.waitsFor .any ops t j) &&
  Region.seqB .any ops (ops.size - n) n ((Array.replicate n true) ++ (Array.replicate (ops.size - n) false))

section
variable {P : Program} {ops ops1 : Array Oper} {Q : Exit → Act → World → Prop} {F : Act → World → Prop} {n : Nat}

theorem all_listed (h1 : ops1.size = n) (hedge : ∀ i o, ops1[i]? = some o → ∀ e ∈ o.after, Region.binds .any e = true → e.on < i) {listed1 : Array Bool} (hs : listed1.size = n)
    (hr : Region.ready .any ops1 listed1 = []) : ∀ i, i < n → listed1.getD i false = true := by
  intro i
  induction i using Nat.strongRecOn with
  | _ i ih =>
    intro hi
    cases hl : listed1.getD i false with
    | true => rfl
    | false =>
      have ho : ∃ o, ops1[i]? = some o := ⟨ops1[i]'(by omega), by simp [h1, hi]⟩
      obtain ⟨o, ho⟩ := ho
      have : i ∈ Region.ready .any ops1 listed1 := mem_ready.2 ⟨getD_in (by omega) hl, o, ho, fun e he hb => ih e.on (hedge i o ho e he hb) (by have := hedge i o ho e he hb; omega)⟩
      rw [hr] at this
      cases this

theorem wpOp_head {i : Nat} {K K' : Act → World → Prop} {a : Act} {w : World} (hi : ops1[i]? = ops[i]?) (hg : ∀ o g b, ops1[i]? = some o → o.guard = some (g, b) → ops1[g]? = ops[g]?)
    (hK : ∀ a w, K a w → K' a w) (h : wpOp P ops1 (endBy F Q) i K a w) : wpOp P ops Q i K' a w := by
  refine wpOp_mono hK ?_
  unfold wpOp at *
  rw [← hi]
  cases ho : ops1[i]? with
  | none => simp only [ho] at h; exact h
  | some o =>
    simp only [ho] at h
    have hw : Region.wanted o (yielded ops1 a.tmps) = Region.wanted o (yielded ops a.tmps) := by
      unfold Region.wanted
      cases hgd : o.guard with
      | none => rfl
      | some gb =>
        obtain ⟨g, b⟩ := gb
        have := hg o g b ho hgd
        simp only [yielded, this]
    rw [hw] at h
    simp only
    split
    · rename_i hwant
      simp only [hwant, if_true] at h
      rcases h with h | ⟨h1, h2⟩
      · exact .inl (wp_endBy h)
      · exact .inr ⟨h1, h2⟩
    · rename_i hwant
      simp only [hwant] at h
      exact h

theorem wpAny_head (h1 : ops1.size = n) (hn : n ≤ ops.size) (hag : ∀ i, i < n → ops1[i]? = ops[i]?)
    (hedge : ∀ i o, ops1[i]? = some o → ∀ e ∈ o.after, Region.binds .any e = true → e.on < i)
    (hguard : ∀ (i : Nat) (o : Oper) (g : Nat) (b : Bool), ops1[i]? = some o → o.guard = some (g, b) → g < n)
    (htail : ∀ t o, n ≤ t → ops[t]? = some o → ∀ j, j < n → ∃ e ∈ o.after, Region.binds .any e = true ∧ e.on = j)
    (hfin : ∀ a w, F a w → wpAny P .any ops Q (ops.size - n) ((Array.replicate n true) ++ (Array.replicate (ops.size - n) false)) a w) :
    ∀ (f : Nat) (listed listed1 : Array Bool) (a : Act) (w : World), listed.size = ops.size → listed1.size = n → (∀ i, i < n → listed.getD i false = listed1.getD i false) →
      (∀ t, n ≤ t → listed.getD t false = false) → wpAny P .any ops1 (endBy F Q) f listed1 a w → wpAny P .any ops Q (f + (ops.size - n)) listed a w := by
  have hfull : ∀ (listed listed1 : Array Bool), listed.size = ops.size → listed1.size = n → (∀ i, i < n → listed.getD i false = listed1.getD i false) → (∀ t, n ≤ t → listed.getD t false = false) →
      (∀ i, i < n → listed1.getD i false = true) → listed = (Array.replicate n true) ++ (Array.replicate (ops.size - n) false) := by
    intro listed listed1 hs hs1 h2 h3 h4
    apply Array.ext
    · simp; omega
    · intro i hi hi'
      have e1 : listed.getD i false = listed[i] := by simp [hi]
      rw [← e1]
      by_cases hin : i < n
      · rw [h2 i hin, h4 i hin, Array.getElem_append_left (by simpa using hin)]; simp
      · rw [h3 i (by omega), Array.getElem_append_right (by simpa using hin)]; simp
  have hsub : ∀ (listed listed1 : Array Bool), listed1.size = n → listed.size = ops.size → (∀ i, i < n → listed.getD i false = listed1.getD i false) → ∀ i, i < n →
      (i ∈ Region.ready .any ops listed ↔ i ∈ Region.ready .any ops1 listed1) := by
    intro listed listed1 hs1 hs h2 i hi
    rw [mem_ready, mem_ready, hag i hi]
    have eT : listed.getD i true = listed1.getD i true := by
      have := h2 i hi
      have a1 : i < listed.size := by omega
      have a2 : i < listed1.size := by omega
      simp [a1, a2] at this ⊢; exact this
    rw [eT]
    constructor
    · rintro ⟨g1, o, ho, g2⟩
      refine ⟨g1, o, ho, fun e he hb => ?_⟩
      rw [← h2 e.on (by have := hedge i o (by rw [hag i hi]; exact ho) e he hb; omega)]
      exact g2 e he hb
    · rintro ⟨g1, o, ho, g2⟩
      refine ⟨g1, o, ho, fun e he hb => ?_⟩
      rw [h2 e.on (by have := hedge i o (by rw [hag i hi]; exact ho) e he hb; omega)]
      exact g2 e he hb
  intro f
  induction f with
  | zero =>
    intro listed listed1 a w hs hs1 h2 h3 h
    rw [Nat.zero_add, hfull listed listed1 hs hs1 h2 h3 (all_listed h1 hedge hs1 h.1)]
    exact hfin a w h.2
  | succ f ih =>
    intro listed listed1 a w hs hs1 h2 h3 h
    obtain ⟨ha, hb⟩ := h
    have hend : Region.ready .any ops1 listed1 = [] → wpAny P .any ops Q (f + 1 + (ops.size - n)) listed a w := by
      intro hr
      rw [hfull listed listed1 hs hs1 h2 h3 (all_listed h1 hedge hs1 hr)]
      exact wpAny_add (hfin a w (ha hr)) (f + 1)
    by_cases hr : Region.ready .any ops1 listed1 = []
    · exact hend hr
    · obtain ⟨k, hk⟩ := List.exists_mem_of_ne_nil _ hr
      have hkn : k < n := by
        obtain ⟨_, o, ho, _⟩ := mem_ready.1 hk
        have := (Array.getElem?_eq_some_iff.1 ho).1
        omega
      have hkl : listed.getD k false = false := by
        rw [h2 k hkn]
        exact getD_both (mem_ready.1 hk).1
      rw [show f + 1 + (ops.size - n) = (f + (ops.size - n)) + 1 by omega]
      refine ⟨fun h0 => ?_, fun i hi => ?_⟩
      · have := (hsub listed listed1 hs1 hs h2 k hkn).2 hk
        rw [h0] at this
        cases this
      · have hin : i < n := by
          rcases Nat.lt_or_ge i n with g | g
          · exact g
          · obtain ⟨_, o, ho, hall⟩ := mem_ready.1 hi
            obtain ⟨e, he, hb', hon⟩ := htail i o g ho k hkn
            have := hall e he hb'
            rw [hon, hkl] at this
            cases this
        refine wpOp_head (hag i hin) (fun o g b ho hgd => hag g (hguard i o g b ho hgd)) (fun a' w' h' => ?_) (hb i ((hsub listed listed1 hs1 hs h2 i hin).1 hi))
        refine ih (listed.setIfInBounds i true) (listed1.setIfInBounds i true) a' w' (by simp [hs]) (by simp [hs1]) (fun j hj => ?_) (fun t ht => by rw [getD_set_ne false (by omega)]; exact h3 t ht) h'
        by_cases hij : i = j
        · subst hij
          have a1 : i < listed.size := by omega
          have a2 : i < listed1.size := by omega
          simp [a1, a2]
        · rw [getD_set_ne false hij, getD_set_ne false hij]; exact h2 j hj
end

/-- THE REGION: a quiet head in whatever order, then the tail. -/
theorem wp_region_ext_tail {P : Program} {id : Nat} {Q : Exit → Act → World → Prop} {a : Act} {w : World} {l : List Oper} (n : Nat) (hm : P.follows .mixedOrders = true)
    (hB : Region.lexB .any (l.take n).toArray = true) (hT : tailB l.toArray n = true)
    (h : wpQuiet P (l.take n).toArray (fun w' => ∃ x, w' = ext w x) (fun a' => ∀ w', (∃ x, w' = ext w x) → wpList P l.toArray Q (l.drop n) a' w') (l.take n) a) : (Code.region id l.toArray true).wp P Q a w := by
  simp only [tailB, Bool.and_eq_true, decide_eq_true_eq, List.all_eq_true, List.mem_range] at hT
  obtain ⟨⟨⟨hn, hH⟩, hT⟩, hS⟩ := hT
  simp only [Region.lexB, Bool.and_eq_true] at hB
  have hsz : (l.take n).toArray.size = n := by simp at hn ⊢; omega
  have hag : ∀ i, i < n → (l.take n).toArray[i]? = l.toArray[i]? := fun i hi => by simp [hi]
  have hop : ∀ i o, (l.take n).toArray[i]? = some o → i < n ∧ l.toArray[i]? = some o := fun i o ho => by
    have h1 := (Array.getElem?_eq_some_iff.1 ho).1
    rw [hsz] at h1
    exact ⟨h1, by rw [← hag i h1]; exact ho⟩
  refine wp_region_any hm ?_
  have H1 := wpAny_of_quiet (P := P) (md := .any) (ops := (l.take n).toArray) (C := fun w' => ∃ x, w' = ext w x) (Q := fun a' => ∀ w', (∃ x, w' = ext w x) → wpList P l.toArray Q (l.drop n) a' w')
    (Q' := endBy (fun a' w' => wpList P l.toArray Q (l.drop n) a' w') Q) (fun a' w' hw' hq => hq w' hw') (l.take n).toArray.size (Array.replicate (l.take n).toArray.size false) a { w with drawn := w.drawn + 1 } (ext_of (Below.refl _ w).drew)
    (by
      have := wpAnyQ_lex (C := fun w' => ∃ x, w' = ext w x) (md := .any) hB.1 (l.take n) 0 (Array.replicate (l.take n).toArray.size false) a (by simp) (by simpa using hB.2) h
      simpa using this)
  have H2 := wpAny_head (P := P) (ops := l.toArray) (ops1 := (l.take n).toArray) (Q := Q) (F := fun a' w' => wpList P l.toArray Q (l.drop n) a' w') (n := n) hsz hn hag
    (fun i o ho e he hb => by
      obtain ⟨hi, ho'⟩ := hop i o ho
      have := hH i hi
      rw [ho'] at this
      simp only [Bool.and_eq_true] at this
      have h2 := Array.all_eq_true_iff_forall_mem.1 this.1 e he
      simpa [hb] using h2)
    (fun i o g b ho hg => by
      obtain ⟨hi, ho'⟩ := hop i o ho
      have := hH i hi
      rw [ho'] at this
      simp only [Bool.and_eq_true, hg] at this
      simpa using this.2)
    (fun t o ht ho j hj => by
      have htl : t < l.toArray.size := (Array.getElem?_eq_some_iff.1 ho).1
      have h1 := hT t htl
      simp only [Bool.or_eq_true, decide_eq_true_eq] at h1
      rcases h1 with h1 | h1
      · omega
      · have h2 := List.all_eq_true.1 h1 j (List.mem_range.2 hj)
        obtain ⟨o', ho2, e, he, hb, hon⟩ := Region.waitsFor_spec h2
        have : o' = o := Option.some.inj (ho2.symm.trans ho)
        subst this
        exact ⟨e, he, hb, hon⟩)
    (fun a' w' hf => by
      have hl : (l.drop n).length = l.toArray.size - n := by simp
      have := wpAny_of_seq (P := P) (md := .any) (ops := l.toArray) (Q' := Q) (l.drop n) n ((Array.replicate n true) ++ (Array.replicate (l.toArray.size - n) false)) a' w' (fun j => by simp [List.getElem?_drop]) (by rw [hl]; exact hS) hf
      rwa [hl] at this)
    (l.take n).toArray.size (Array.replicate l.toArray.size false) (Array.replicate (l.take n).toArray.size false) a { w with drawn := w.drawn + 1 } (by simp) (by simp at hsz ⊢; omega)
    (fun i hi => by rw [getD_replicate_false, getD_replicate_false]) (fun t _ => getD_replicate_false _ _) H1
  rw [hsz, show n + (l.toArray.size - n) = l.toArray.size by omega] at H2
  exact H2
end Go.Proofs.Qxb6500680aGreatDoor
