import Derived.Test.Qxb6500680aGreatDoorTail
namespace Go.Proofs.Qxb6500680aGreatDoor
open Go.RowKit

/-! As Tail, where the tail waits for the head through other operations of the head. -/

def tailC (ops : Array Oper) (n : Nat) : Bool :=
  decide (n ≤ ops.size) &&
  ((List.range n).all fun i => match ops[i]? with
    | some o => (o.after.all fun e => !Region.binds .any e || decide (e.on < i)) && (match o.guard with | some (g, _) => decide (g < n) | none => true)
    | none => false) &&
  ((List.range ops.size).all fun t => decide (t < n) || ((List.range ops.size).any fun t' => decide (n ≤ t') && Region.waitsFor .any ops t t') || (List.range n).all fun j => Region.waitsFor .any ops t j || (List.range n).any fun j' => decide (j < j') && Region.waitsFor .any ops j' j) &&
  Region.seqB .any ops (ops.size - n) n ((Array.replicate n true) ++ (Array.replicate (ops.size - n) false))

section
variable {P : Program} {ops ops1 : Array Oper} {Q : Exit → Act → World → Prop} {F : Act → World → Prop} {n : Nat}

theorem wpAny_headc (h1 : ops1.size = n) (hn : n ≤ ops.size) (hag : ∀ i, i < n → ops1[i]? = ops[i]?)
    (hedge : ∀ i o, ops1[i]? = some o → ∀ e ∈ o.after, Region.binds .any e = true → e.on < i)
    (hguard : ∀ (i : Nat) (o : Oper) (g : Nat) (b : Bool), ops1[i]? = some o → o.guard = some (g, b) → g < n)
    (htail : ∀ t o, n ≤ t → ops[t]? = some o → (∃ t', n ≤ t' ∧ ∃ e ∈ o.after, Region.binds .any e = true ∧ e.on = t') ∨ ∀ j, j < n → (∃ e ∈ o.after, Region.binds .any e = true ∧ e.on = j) ∨ ∃ j' o', j < j' ∧ j' < n ∧ ops1[j']? = some o' ∧ ∃ e ∈ o'.after, Region.binds .any e = true ∧ e.on = j)
    (hfin : ∀ a w, F a w → wpAny P .any ops Q (ops.size - n) ((Array.replicate n true) ++ (Array.replicate (ops.size - n) false)) a w) :
    ∀ (f : Nat) (listed listed1 : Array Bool) (a : Act) (w : World), listed.size = ops.size → listed1.size = n → (∀ i, i < n → listed.getD i false = listed1.getD i false) →
      (∀ t, n ≤ t → listed.getD t false = false) → (∀ i o, ops1[i]? = some o → listed1.getD i false = true → ∀ e ∈ o.after, Region.binds .any e = true → listed1.getD e.on false = true) → wpAny P .any ops1 (endBy F Q) f listed1 a w → wpAny P .any ops Q (f + (ops.size - n)) listed a w := by
  have hfull : ∀ (listed listed1 : Array Bool), listed.size = ops.size → listed1.size = n → (∀ i, i < n → listed.getD i false = listed1.getD i false) → (∀ t, n ≤ t → listed.getD t false = false) →
      (∀ i, i < n → listed1.getD i false = true) → listed = (Array.replicate n true) ++ (Array.replicate (ops.size - n) false) := by
    intro listed listed1 hs hs1 h2 h3 h4
    apply Array.ext
    · simp; omega
    · intro i hi hi'
      have e1 : listed.getD i false = listed[i] := by simp [hi]
      rw [← e1]
      by_cases hin : i < n
      · rw [h2 i hin, h4 i hin, Array.getElem_append_left (by simpa using hin)]; simp
      · rw [h3 i (by omega), Array.getElem_append_right (by simpa using hin)]; simp
  have hsub : ∀ (listed listed1 : Array Bool), listed1.size = n → listed.size = ops.size → (∀ i, i < n → listed.getD i false = listed1.getD i false) → ∀ i, i < n →
      (i ∈ Region.ready .any ops listed ↔ i ∈ Region.ready .any ops1 listed1) := by
    intro listed listed1 hs1 hs h2 i hi
    rw [mem_ready, mem_ready, hag i hi]
    have eT : listed.getD i true = listed1.getD i true := by
      have := h2 i hi
      have a1 : i < listed.size := by omega
      have a2 : i < listed1.size := by omega
      simp [a1, a2] at this ⊢; exact this
    rw [eT]
    constructor
    · rintro ⟨g1, o, ho, g2⟩
      refine ⟨g1, o, ho, fun e he hb => ?_⟩
      rw [← h2 e.on (by have := hedge i o (by rw [hag i hi]; exact ho) e he hb; omega)]
      exact g2 e he hb
    · rintro ⟨g1, o, ho, g2⟩
      refine ⟨g1, o, ho, fun e he hb => ?_⟩
      rw [h2 e.on (by have := hedge i o (by rw [hag i hi]; exact ho) e he hb; omega)]
      exact g2 e he hb
  intro f
  induction f with
  | zero =>
    intro listed listed1 a w hs hs1 h2 h3 hcl h
    rw [Nat.zero_add, hfull listed listed1 hs hs1 h2 h3 (all_listed h1 hedge hs1 h.1)]
    exact hfin a w h.2
  | succ f ih =>
    intro listed listed1 a w hs hs1 h2 h3 hcl h
    obtain ⟨ha, hb⟩ := h
    have hend : Region.ready .any ops1 listed1 = [] → wpAny P .any ops Q (f + 1 + (ops.size - n)) listed a w := by
      intro hr
      rw [hfull listed listed1 hs hs1 h2 h3 (all_listed h1 hedge hs1 hr)]
      exact wpAny_add (hfin a w (ha hr)) (f + 1)
    by_cases hr : Region.ready .any ops1 listed1 = []
    · exact hend hr
    · obtain ⟨k, hk⟩ := List.exists_mem_of_ne_nil _ hr
      have hkn : k < n := by
        obtain ⟨_, o, ho, _⟩ := mem_ready.1 hk
        have := (Array.getElem?_eq_some_iff.1 ho).1
        omega
      have hkl : listed.getD k false = false := by
        rw [h2 k hkn]
        exact getD_both (mem_ready.1 hk).1
      rw [show f + 1 + (ops.size - n) = (f + (ops.size - n)) + 1 by omega]
      refine ⟨fun h0 => ?_, fun i hi => ?_⟩
      · have := (hsub listed listed1 hs1 hs h2 k hkn).2 hk
        rw [h0] at this
        cases this
      · have hin : i < n := by
          rcases Nat.lt_or_ge i n with g | g
          · exact g
          · obtain ⟨_, o, ho, hall⟩ := mem_ready.1 hi
            exfalso
            rcases htail i o g ho with ⟨t', ht', e, he, hb', hon⟩ | hd
            · have := hall e he hb'
              rw [hon, h3 t' ht'] at this
              cases this
            · have down : ∀ m j, j < n → n - j ≤ m → listed1.getD j false = true := by
                intro m
                induction m with
                | zero => intro j hj hm; omega
                | succ m ihm =>
                  intro j hj hm
                  rcases hd j hj with ⟨e, he, hb', hon⟩ | ⟨j', o', h1', h2', ho', e, he, hb', hon⟩
                  · have := hall e he hb'
                    rw [hon] at this
                    rw [← h2 j hj]; exact this
                  · have := hcl j' o' ho' (ihm j' h2' (by omega)) e he hb'
                    rw [hon] at this
                    exact this
              have := down n k hkn (by omega)
              rw [← h2 k hkn, hkl] at this
              cases this
        have hnext : ∀ i, i < n → i ∈ Region.ready .any ops1 listed1 → ∀ j o, ops1[j]? = some o → (listed1.setIfInBounds i true).getD j false = true → ∀ e ∈ o.after, Region.binds .any e = true → (listed1.setIfInBounds i true).getD e.on false = true := by
          intro i hin hri j o ho hlj e he hbe
          have up : listed1.getD e.on false = true → (listed1.setIfInBounds i true).getD e.on false = true := by
            intro hu
            by_cases hie : i = e.on
            · subst hie
              have a2 : e.on < listed1.size := by omega
              simp [a2]
            · rw [getD_set_ne false hie]; exact hu
          by_cases hij : i = j
          · subst hij
            obtain ⟨_, o2, ho2, hall⟩ := mem_ready.1 hri
            have : o2 = o := Option.some.inj (ho2.symm.trans ho)
            subst this
            exact up (hall e he hbe)
          · rw [getD_set_ne false hij] at hlj
            exact up (hcl j o ho hlj e he hbe)
        refine wpOp_head (hag i hin) (fun o g b ho hgd => hag g (hguard i o g b ho hgd)) (fun a' w' h' => ?_) (hb i ((hsub listed listed1 hs1 hs h2 i hin).1 hi))
        refine ih (listed.setIfInBounds i true) (listed1.setIfInBounds i true) a' w' (by simp [hs]) (by simp [hs1]) (fun j hj => ?_) (fun t ht => by rw [getD_set_ne false (by omega)]; exact h3 t ht) (hnext i hin ((hsub listed listed1 hs1 hs h2 i hin).1 hi)) h'
        by_cases hij : i = j
        · subst hij
          have a1 : i < listed.size := by omega
          have a2 : i < listed1.size := by omega
          simp [a1, a2]
        · rw [getD_set_ne false hij, getD_set_ne false hij]; exact h2 j hj
end

theorem wp_region_ext_tailc {P : Program} {id : Nat} {Q : Exit → Act → World → Prop} {a : Act} {w : World} {l : List Oper} (n : Nat) (hm : P.follows .mixedOrders = true)
    (hB : Region.lexB .any (l.take n).toArray = true) (hT : tailC l.toArray n = true)
    (h : wpQuiet P (l.take n).toArray (fun w' => ∃ x, w' = ext w x) (fun a' => ∀ w', (∃ x, w' = ext w x) → wpList P l.toArray Q (l.drop n) a' w') (l.take n) a) : (Code.region id l.toArray true).wp P Q a w := by
  simp only [tailC, Bool.and_eq_true, decide_eq_true_eq, List.all_eq_true, List.mem_range] at hT
  obtain ⟨⟨⟨hn, hH⟩, hT⟩, hS⟩ := hT
  simp only [Region.lexB, Bool.and_eq_true] at hB
  have hsz : (l.take n).toArray.size = n := by simp at hn ⊢; omega
  have hag : ∀ i, i < n → (l.take n).toArray[i]? = l.toArray[i]? := fun i hi => by simp [hi]
  have hop : ∀ i o, (l.take n).toArray[i]? = some o → i < n ∧ l.toArray[i]? = some o := fun i o ho => by
    have h1 := (Array.getElem?_eq_some_iff.1 ho).1
    rw [hsz] at h1
    exact ⟨h1, by rw [← hag i h1]; exact ho⟩
  refine wp_region_any hm ?_
  have H1 := wpAny_of_quiet (P := P) (md := .any) (ops := (l.take n).toArray) (C := fun w' => ∃ x, w' = ext w x) (Q := fun a' => ∀ w', (∃ x, w' = ext w x) → wpList P l.toArray Q (l.drop n) a' w')
    (Q' := endBy (fun a' w' => wpList P l.toArray Q (l.drop n) a' w') Q) (fun a' w' hw' hq => hq w' hw') (l.take n).toArray.size (Array.replicate (l.take n).toArray.size false) a { w with drawn := w.drawn + 1 } (ext_of (Below.refl _ w).drew)
    (by
      have := wpAnyQ_lex (C := fun w' => ∃ x, w' = ext w x) (md := .any) hB.1 (l.take n) 0 (Array.replicate (l.take n).toArray.size false) a (by simp) (by simpa using hB.2) h
      simpa using this)
  have H2 := wpAny_headc (P := P) (ops := l.toArray) (ops1 := (l.take n).toArray) (Q := Q) (F := fun a' w' => wpList P l.toArray Q (l.drop n) a' w') (n := n) hsz hn hag
    (fun i o ho e he hb => by
      obtain ⟨hi, ho'⟩ := hop i o ho
      have := hH i hi
      rw [ho'] at this
      simp only [Bool.and_eq_true] at this
      have h2 := Array.all_eq_true_iff_forall_mem.1 this.1 e he
      simpa [hb] using h2)
    (fun i o g b ho hg => by
      obtain ⟨hi, ho'⟩ := hop i o ho
      have := hH i hi
      rw [ho'] at this
      simp only [Bool.and_eq_true, hg] at this
      simpa using this.2)
    (fun t o ht ho => by
      have htl : t < l.toArray.size := (Array.getElem?_eq_some_iff.1 ho).1
      have h1 := hT t htl
      simp only [Bool.or_eq_true, decide_eq_true_eq, List.any_eq_true, List.all_eq_true, List.mem_range, Bool.and_eq_true] at h1
      rcases h1 with (h1 | ⟨t', _, h1, h2⟩) | h1
      · omega
      · obtain ⟨o', ho2, e, he, hb, hon⟩ := Region.waitsFor_spec h2
        have : o' = o := Option.some.inj (ho2.symm.trans ho)
        subst this
        exact .inl ⟨t', h1, e, he, hb, hon⟩
      · refine .inr fun j hj => ?_
        rcases h1 j hj with h2 | ⟨j', hj', hlt, h2⟩
        · obtain ⟨o', ho2, e, he, hb, hon⟩ := Region.waitsFor_spec h2
          have : o' = o := Option.some.inj (ho2.symm.trans ho)
          subst this
          exact .inl ⟨e, he, hb, hon⟩
        · obtain ⟨o', ho2, e, he, hb, hon⟩ := Region.waitsFor_spec h2
          exact .inr ⟨j', o', hlt, hj', by rw [hag j' hj']; exact ho2, e, he, hb, hon⟩)
    (fun a' w' hf => by
      have hl : (l.drop n).length = l.toArray.size - n := by simp
      have := wpAny_of_seq (P := P) (md := .any) (ops := l.toArray) (Q' := Q) (l.drop n) n ((Array.replicate n true) ++ (Array.replicate (l.toArray.size - n) false)) a' w' (fun j => by simp [List.getElem?_drop]) (by rw [hl]; exact hS) hf
      rwa [hl] at this)
    (l.take n).toArray.size (Array.replicate l.toArray.size false) (Array.replicate (l.take n).toArray.size false) a { w with drawn := w.drawn + 1 } (by simp) (by simp at hsz ⊢; omega)
    (fun i hi => by rw [getD_replicate_false, getD_replicate_false]) (fun t _ => getD_replicate_false _ _) (fun i o _ hl => by rw [getD_replicate_false] at hl; cases hl) H1
  rw [hsz, show n + (l.toArray.size - n) = l.toArray.size by omega] at H2
  exact H2

/-- The same, with ONE operation behind the head (a call, say) and the rest quiet. -/
def tailP (ops : Array Oper) (n : Nat) : Bool :=
  decide (n ≤ ops.size) &&
  ((List.range n).all fun i => match ops[i]? with
    | some o => (o.after.all fun e => !Region.binds .any e || decide (e.on < i)) && (match o.guard with | some (g, _) => decide (g < n) | none => true)
    | none => false) &&
  ((List.range ops.size).all fun t => decide (t < n) || ((List.range ops.size).any fun t' => decide (n ≤ t') && Region.waitsFor .any ops t t') || (List.range n).all fun j => Region.waitsFor .any ops t j || (List.range n).any fun j' => decide (j < j') && Region.waitsFor .any ops j' j) &&
  (decide (n < ops.size) && decide (Region.ready .any ops ((Array.replicate n true) ++ (Array.replicate (ops.size - n) false)) = [n]) && Region.noSelect ops &&
    Region.lexFrom .any ops (ops.size - (n + 1)) (n + 1) (((Array.replicate n true) ++ (Array.replicate (ops.size - n) false)).setIfInBounds n true))
theorem wp_region_pivot {P : Program} {id : Nat} {Q : Exit → Act → World → Prop} {a : Act} {w : World} {l : List Oper} (n : Nat) (hm : P.follows .mixedOrders = true)
    (hB : Region.lexB .any (l.take n).toArray = true) (hT : tailP l.toArray n = true)
    (h : wpQuiet P (l.take n).toArray (fun w' => ∃ x, w' = ext w x) (fun a' => ∀ w', (∃ x, w' = ext w x) → wpList P l.toArray (endBy (fun a2 w2 => wpQuiet P l.toArray (fun w' => w' = w2) (fun a3 => Q .normal a3 w2) (l.drop (n + 1)) a2) Q) ((l.drop n).take 1) a' w') (l.take n) a) : (Code.region id l.toArray true).wp P Q a w := by
  simp only [tailP, Bool.and_eq_true, decide_eq_true_eq, List.all_eq_true, List.mem_range] at hT
  obtain ⟨⟨⟨hn, hH⟩, hT⟩, hS⟩ := hT
  simp only [Region.lexB, Bool.and_eq_true] at hB
  have hsz : (l.take n).toArray.size = n := by simp at hn ⊢; omega
  have hag : ∀ i, i < n → (l.take n).toArray[i]? = l.toArray[i]? := fun i hi => by simp [hi]
  have hop : ∀ i o, (l.take n).toArray[i]? = some o → i < n ∧ l.toArray[i]? = some o := fun i o ho => by
    have h1 := (Array.getElem?_eq_some_iff.1 ho).1
    rw [hsz] at h1
    exact ⟨h1, by rw [← hag i h1]; exact ho⟩
  refine wp_region_any hm ?_
  have H1 := wpAny_of_quiet (P := P) (md := .any) (ops := (l.take n).toArray) (C := fun w' => ∃ x, w' = ext w x) (Q := fun a' => ∀ w', (∃ x, w' = ext w x) → wpList P l.toArray (endBy (fun a2 w2 => wpQuiet P l.toArray (fun w' => w' = w2) (fun a3 => Q .normal a3 w2) (l.drop (n + 1)) a2) Q) ((l.drop n).take 1) a' w')
    (Q' := endBy (fun a' w' => wpList P l.toArray (endBy (fun a2 w2 => wpQuiet P l.toArray (fun w' => w' = w2) (fun a3 => Q .normal a3 w2) (l.drop (n + 1)) a2) Q) ((l.drop n).take 1) a' w') Q) (fun a' w' hw' hq => hq w' hw') (l.take n).toArray.size (Array.replicate (l.take n).toArray.size false) a { w with drawn := w.drawn + 1 } (ext_of (Below.refl _ w).drew)
    (by
      have := wpAnyQ_lex (C := fun w' => ∃ x, w' = ext w x) (md := .any) hB.1 (l.take n) 0 (Array.replicate (l.take n).toArray.size false) a (by simp) (by simpa using hB.2) h
      simpa using this)
  have H2 := wpAny_headc (P := P) (ops := l.toArray) (ops1 := (l.take n).toArray) (Q := Q) (F := fun a' w' => wpList P l.toArray (endBy (fun a2 w2 => wpQuiet P l.toArray (fun w' => w' = w2) (fun a3 => Q .normal a3 w2) (l.drop (n + 1)) a2) Q) ((l.drop n).take 1) a' w') (n := n) hsz hn hag
    (fun i o ho e he hb => by
      obtain ⟨hi, ho'⟩ := hop i o ho
      have := hH i hi
      rw [ho'] at this
      simp only [Bool.and_eq_true] at this
      have h2 := Array.all_eq_true_iff_forall_mem.1 this.1 e he
      simpa [hb] using h2)
    (fun i o g b ho hg => by
      obtain ⟨hi, ho'⟩ := hop i o ho
      have := hH i hi
      rw [ho'] at this
      simp only [Bool.and_eq_true, hg] at this
      simpa using this.2)
    (fun t o ht ho => by
      have htl : t < l.toArray.size := (Array.getElem?_eq_some_iff.1 ho).1
      have h1 := hT t htl
      simp only [Bool.or_eq_true, decide_eq_true_eq, List.any_eq_true, List.all_eq_true, List.mem_range, Bool.and_eq_true] at h1
      rcases h1 with (h1 | ⟨t', _, h1, h2⟩) | h1
      · omega
      · obtain ⟨o', ho2, e, he, hb, hon⟩ := Region.waitsFor_spec h2
        have : o' = o := Option.some.inj (ho2.symm.trans ho)
        subst this
        exact .inl ⟨t', h1, e, he, hb, hon⟩
      · refine .inr fun j hj => ?_
        rcases h1 j hj with h2 | ⟨j', hj', hlt, h2⟩
        · obtain ⟨o', ho2, e, he, hb, hon⟩ := Region.waitsFor_spec h2
          have : o' = o := Option.some.inj (ho2.symm.trans ho)
          subst this
          exact .inl ⟨e, he, hb, hon⟩
        · obtain ⟨o', ho2, e, he, hb, hon⟩ := Region.waitsFor_spec h2
          exact .inr ⟨j', o', hlt, hj', by rw [hag j' hj']; exact ho2, e, he, hb, hon⟩)
    (fun a' w' hf => by
      have hlt : n < l.length := by simpa using hS.1.1.1
      obtain ⟨o, ho⟩ : ∃ o, l[n]? = some o := ⟨l[n], by simp [hlt]⟩
      have hdrop : (l.drop n).take 1 = [o] := by
        rw [List.drop_eq_getElem_cons hlt]
        simp only [List.take_succ_cons, List.take_zero]
        rw [List.getElem?_eq_getElem hlt] at ho
        rw [Option.some.inj ho]
      rw [hdrop] at hf
      have hsz2 : l.toArray.size - n = (l.drop (n + 1)).length + 1 := by simp; omega
      rw [hsz2]
      refine ⟨fun h1 => (by rw [← hsz2] at h1; rw [hS.1.1.2] at h1; cases h1), fun i hi => ?_⟩
      rw [← hsz2, hS.1.1.2] at hi
      have hik : i = n := by simpa using hi
      subst hik
      have hw : wpOp P l.toArray (endBy (fun a2 w2 => wpQuiet P l.toArray (fun w' => w' = w2) (fun a3 => Q .normal a3 w2) (l.drop (i + 1)) a2) Q) i (wpList P l.toArray (endBy (fun a2 w2 => wpQuiet P l.toArray (fun w' => w' = w2) (fun a3 => Q .normal a3 w2) (l.drop (i + 1)) a2) Q) []) a' w' := by
        unfold wpOp
        simp only [show l.toArray[i]? = some o by simpa using ho]
        exact hf
      refine wpOp_head (ops1 := l.toArray) rfl (fun _ _ _ _ _ => rfl) (fun a2 w2 h2 => ?_) hw
      have h3 : wpQuiet P l.toArray (fun w' => w' = w2) (fun a3 => Q .normal a3 w2) (l.drop (i + 1)) a2 := h2
      exact wpAny_of_quiet (P := P) (md := .any) (ops := l.toArray) (C := fun w' => w' = w2) (Q := fun a3 => Q .normal a3 w2) (Q' := Q) (fun a3 w3 hw3 hq => by rw [hw3]; exact hq) _ _ a2 w2 rfl
        (wpAnyQ_lex (C := fun w' => w' = w2) (md := .any) hS.1.2 (l.drop (i + 1)) (i + 1) _ a2 (fun j => by simp [List.getElem?_drop, Nat.add_assoc]) (by rw [← hsz2]; simpa using hS.2) h3))
    (l.take n).toArray.size (Array.replicate l.toArray.size false) (Array.replicate (l.take n).toArray.size false) a { w with drawn := w.drawn + 1 } (by simp) (by simp at hsz ⊢; omega)
    (fun i hi => by rw [getD_replicate_false, getD_replicate_false]) (fun t _ => getD_replicate_false _ _) (fun i o _ hl => by rw [getD_replicate_false] at hl; cases hl) H1
  rw [hsz, show n + (l.toArray.size - n) = l.toArray.size by omega] at H2
  exact H2
end Go.Proofs.Qxb6500680aGreatDoor
