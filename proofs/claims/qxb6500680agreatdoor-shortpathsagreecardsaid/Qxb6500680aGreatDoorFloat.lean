import Derived.Test.Qxb6500680aGreatDoorCalm
namespace Go.Proofs.Qxb6500680aGreatDoor
open Go.RowKit

/-! A region that draws its order: a calm head; new variables that may be made at any time; a tail that waits for all of these and goes in one order. -/

/-- A new variable: the operation's number, its slot, the block that it makes. -/
structure Flt where
  idx : Nat
  dst : Tmp
  obj : Obj

/-- The frame with the slots of those that have been made. -/
def actOf (fl : List Flt) (done : Nat → Bool) (b : Nat → Nat) (a : Act) : Act := fl.foldr (fun q a => if done q.idx then a.put (some q.dst) (.pointer (some ⟨b q.idx, 0, none⟩)) else a) a
/-- How many are still to be made. -/
def und (fl : List Flt) (done : Nat → Bool) : Nat := (fl.filter fun q => !done q.idx).length

section
variable {P : Program} {ops ops1 : Array Oper} {Q : Exit → Act → World → Prop} {w0 : World}

theorem actOf_nil (done : Nat → Bool) (b : Nat → Nat) (a : Act) : actOf [] done b a = a := rfl
theorem actOf_cons (q : Flt) (fl : List Flt) (done : Nat → Bool) (b : Nat → Nat) (a : Act) :
    actOf (q :: fl) done b a = if done q.idx then (actOf fl done b a).put (some q.dst) (.pointer (some ⟨b q.idx, 0, none⟩)) else actOf fl done b a := rfl

theorem execOp_actOf (o : Oper) (hs : ∀ cs b, o.op ≠ .select cs b) (fl : List Flt) (done : Nat → Bool) (b : Nat → Nat) (a : Act) (h : ∀ q ∈ fl, q.dst ∉ o.looksAt ops) :
    execOp (actOf fl done b a).eval o = execOp a.eval o ∧ Region.wanted o (yielded ops (actOf fl done b a).tmps) = Region.wanted o (yielded ops a.tmps) := by
  induction fl with
  | nil => exact ⟨rfl, rfl⟩
  | cons q fl ih =>
    have ih' := ih (fun r hr => h r (List.mem_cons_of_mem _ hr))
    rw [actOf_cons]
    split
    · have hq : ∀ d, some q.dst = some d → d ∉ o.looksAt ops := fun d hd => by cases hd; exact h q List.mem_cons_self
      rw [execOp_put o hs _ _ _ hq, wanted_put o _ _ _ hq]
      exact ih'
    · exact ih'
theorem actOf_put (fl : List Flt) (done : Nat → Bool) (b : Nat → Nat) (a : Act) (d : Option Tmp) (v : Value) (h : ∀ q ∈ fl, d ≠ some q.dst) :
    (actOf fl done b a).put d v = actOf fl done b (a.put d v) := by
  induction fl with
  | nil => rfl
  | cons q fl ih =>
    have ih' := ih (fun r hr => h r (List.mem_cons_of_mem _ hr))
    rw [actOf_cons, actOf_cons]
    split
    · rw [← ih']
      exact Act.put_comm _ _ _ (fun e he => by cases he; exact h q List.mem_cons_self)
    · exact ih'
theorem actOf_same (fl : List Flt) (done done' : Nat → Bool) (b b' : Nat → Nat) (a : Act) (h : ∀ q ∈ fl, done' q.idx = done q.idx ∧ b' q.idx = b q.idx) : actOf fl done' b' a = actOf fl done b a := by
  induction fl with
  | nil => rfl
  | cons q fl ih =>
    rw [actOf_cons, actOf_cons, ih (fun r hr => h r (List.mem_cons_of_mem _ hr)), (h q List.mem_cons_self).1, (h q List.mem_cons_self).2]
def setB (done : Nat → Bool) (i : Nat) : Nat → Bool := fun j => if j = i then true else done j
def setN (b : Nat → Nat) (i k : Nat) : Nat → Nat := fun j => if j = i then k else b j
theorem actOf_done (fl : List Flt) (done : Nat → Bool) (b : Nat → Nat) (a : Act) (k : Nat) : ∀ (q : Flt), q ∈ fl → (fl.map (·.idx)).Nodup → (fl.map (·.dst)).Nodup → done q.idx = false →
    actOf fl (setB done q.idx) (setN b q.idx k) a = (actOf fl done b a).put (some q.dst) (.pointer (some ⟨k, 0, none⟩)) := by
  induction fl with
  | nil => intro q hq; cases hq
  | cons r fl ih =>
    intro q hq hi hd hn
    simp only [List.map_cons, List.nodup_cons] at hi hd
    rw [actOf_cons, actOf_cons]
    rcases List.mem_cons.1 hq with rfl | hq'
    · have e1 : setB done q.idx q.idx = true := by simp [setB]
      have e2 : setN b q.idx k q.idx = k := by simp [setN]
      rw [e1, e2, hn, if_pos rfl, if_neg (by simp)]
      rw [actOf_same fl done (setB done q.idx) b (setN b q.idx k) a (fun s hs => by
        have : s.idx ≠ q.idx := fun e => hi.1 (e ▸ List.mem_map_of_mem hs)
        simp [setB, setN, this])]
    · have hne : r.idx ≠ q.idx := fun e => hi.1 (e ▸ List.mem_map_of_mem hq')
      have hnd : r.dst ≠ q.dst := fun e => hd.1 (e ▸ List.mem_map_of_mem hq')
      have e1 : setB done q.idx r.idx = done r.idx := by simp [setB, hne]
      have e2 : setN b q.idx k r.idx = b r.idx := by simp [setN, hne]
      rw [e1, e2, ih q hq' hi.2 hd.2 hn]
      split
      · exact Act.put_comm _ _ _ (fun d hdd => by cases hdd; exact fun e => hnd (Option.some.inj e))
      · rfl
theorem und_done (fl : List Flt) (done : Nat → Bool) : ∀ (q : Flt), q ∈ fl → (fl.map (·.idx)).Nodup → done q.idx = false → und fl (setB done q.idx) + 1 = und fl done := by
  induction fl with
  | nil => intro q hq; cases hq
  | cons r fl ih =>
    intro q hq hi hn
    simp only [List.map_cons, List.nodup_cons] at hi
    unfold und at *
    rcases List.mem_cons.1 hq with rfl | hq'
    · have e1 : setB done q.idx q.idx = true := by simp [setB]
      have e3 : fl.filter (fun s => !setB done q.idx s.idx) = fl.filter (fun s => !done s.idx) := by
        apply List.filter_congr
        intro s hs
        have : s.idx ≠ q.idx := fun e => hi.1 (e ▸ List.mem_map_of_mem hs)
        simp [setB, this]
      rw [List.filter_cons, List.filter_cons, e3]
      simp [e1, hn]
    · have hne : r.idx ≠ q.idx := fun e => hi.1 (e ▸ List.mem_map_of_mem hq')
      have e1 : setB done q.idx r.idx = done r.idx := by simp [setB, hne]
      have := ih q hq' hi.2 hn
      rw [List.filter_cons, List.filter_cons, e1]
      split <;> (try simp only [List.length_cons]) <;> omega

/-- What is known of the variables that have been made. -/
def Made (fl : List Flt) (done : Nat → Bool) (b : Nat → Nat) (w0 W : World) : Prop :=
  (∃ x, W = ext w0 x) ∧ (∀ q ∈ fl, done q.idx = true → w0.heap.size ≤ b q.idx ∧ W.heap[b q.idx]? = some q.obj) ∧ (∀ q ∈ fl, ∀ r ∈ fl, done q.idx = true → done r.idx = true → q.idx ≠ r.idx → b q.idx ≠ b r.idx)
theorem Made.ext {fl : List Flt} {done : Nat → Bool} {b : Nat → Nat} {W : World} (h : Made fl done b w0 W) (y : Nat → Array Obj × Nat) : Made fl done b w0 (ext W y) := by
  obtain ⟨⟨x, rfl⟩, h2, h3⟩ := h
  refine ⟨⟨cat x y, ext_ext _ _ _⟩, fun q hq hd => ?_, h3⟩
  obtain ⟨g1, g2⟩ := h2 q hq hd
  refine ⟨g1, ?_⟩
  have hlt : b q.idx < (Qxb6500680aGreatDoor.ext w0 x).heap.size := by
    rcases Nat.lt_or_ge (b q.idx) (Qxb6500680aGreatDoor.ext w0 x).heap.size with h | h
    · exact h
    · rw [Array.getElem?_eq_none h] at g2; cases g2
  rw [(ext_below (Qxb6500680aGreatDoor.ext w0 x) y).block _ hlt]
  exact g2
theorem Made.alloc {fl : List Flt} {done : Nat → Bool} {b : Nat → Nat} {W : World} (h : Made fl done b w0 W) (q : Flt) (hn : (fl.map (·.idx)).Nodup) (hq : q ∈ fl) :
    Made fl (setB done q.idx) (setN b q.idx W.heap.size) w0 (W.alloc q.obj) := by
  obtain ⟨⟨x, rfl⟩, h2, h3⟩ := h
  have hsz : w0.heap.size ≤ (Qxb6500680aGreatDoor.ext w0 x).heap.size := by rw [ext_size]; omega
  have hlt : ∀ r ∈ fl, done r.idx = true → b r.idx < (Qxb6500680aGreatDoor.ext w0 x).heap.size := fun r hr hdr => by
    rcases Nat.lt_or_ge (b r.idx) (Qxb6500680aGreatDoor.ext w0 x).heap.size with h | h
    · exact h
    · have := (h2 r hr hdr).2
      rw [Array.getElem?_eq_none h] at this; cases this
  have huniq : ∀ r ∈ fl, r.idx = q.idx → r.obj = q.obj := by
    intro r hr he
    have : r = q := by
      clear h2 h3 hlt
      induction fl with
      | nil => cases hr
      | cons s fl ih =>
        simp only [List.map_cons, List.nodup_cons] at hn
        rcases List.mem_cons.1 hr with h1 | h1 <;> rcases List.mem_cons.1 hq with h2 | h2
        · rw [h1, h2]
        · subst h1; exact absurd (he ▸ List.mem_map_of_mem h2) hn.1
        · subst h2; exact absurd (he.symm ▸ List.mem_map_of_mem h1) hn.1
        · exact ih hn.2 h2 h1
    rw [this]
  refine ⟨(((Gr.refl w0).ext x).alloc q.obj).of, fun r hr hdr => ?_, fun r hr s hs hdr hds hne => ?_⟩
  · by_cases e : r.idx = q.idx
    · simp only [setN, e, if_true]
      refine ⟨hsz, ?_⟩
      rw [huniq r hr e]
      show (((Qxb6500680aGreatDoor.ext w0 x).heap.push q.obj)[_]?) = _
      simp
    · simp only [setB, e, if_false] at hdr
      simp only [setN, e, if_false]
      refine ⟨(h2 r hr hdr).1, ?_⟩
      rw [Below.heap_alloc _ _ _ (hlt r hr hdr)]
      exact (h2 r hr hdr).2
  · by_cases e : r.idx = q.idx
    · have e' : s.idx ≠ q.idx := fun h => hne (e.trans h.symm)
      simp only [setB, e', if_false] at hds
      simp only [setN, e, e', if_true, if_false]
      exact fun h => absurd (hlt s hs hds) (by omega)
    · simp only [setB, e, if_false] at hdr
      by_cases e' : s.idx = q.idx
      · simp only [setN, e, e', if_true, if_false]
        exact fun h => absurd (hlt r hr hdr) (by omega)
      · simp only [setB, e', if_false] at hds
        simp only [setN, e, e', if_false]
        exact h3 r hr s hs hdr hds hne

/-- THE INTERLEAVING. -/
theorem wpAny_float {n m : Nat} {fl : List Flt} {Qh : Act → Prop} (h1 : ops1.size = n) (hnm : n ≤ m) (hm : m ≤ ops.size) (hag : ∀ i, i < n → ops1[i]? = ops[i]?) (hs : Region.noSelect ops1 = true)
    (hedge : ∀ i o, ops1[i]? = some o → ∀ e ∈ o.after, Region.binds .any e = true → e.on < i)
    (hguard : ∀ (i : Nat) (o : Oper) (g : Nat) (b : Bool), ops1[i]? = some o → o.guard = some (g, b) → g < n)
    (hin : (fl.map (·.idx)).Nodup) (hdn : (fl.map (·.dst)).Nodup)
    (hlook : ∀ (i : Nat) (o : Oper), ops1[i]? = some o → ∀ q ∈ fl, q.dst ∉ o.looksAt ops1 ∧ o.dst ≠ some q.dst)
    (hidx : ∀ q ∈ fl, n ≤ q.idx ∧ q.idx < m) (hall : ∀ i, n ≤ i → i < m → ∃ q ∈ fl, q.idx = i)
    (hflt : ∀ q ∈ fl, ∃ o, ops[q.idx]? = some o ∧ o.dst = some q.dst ∧ o.guard = none ∧ o.after = #[] ∧ ∀ (a : Act) (W : World), (execOp a.eval o).run P W = .ok (.value (.pointer (some ⟨W.heap.size, 0, none⟩))) (W.alloc q.obj))
    (htail : ∀ t o, m ≤ t → ops[t]? = some o → ∀ j, j < m → ∃ e ∈ o.after, Region.binds .any e = true ∧ e.on = j)
    (hfin : ∀ a b W, Qh a → Made fl (fun _ => true) b w0 W → wpAny P .any ops Q (ops.size - m) ((Array.replicate m true) ++ (Array.replicate (ops.size - m) false)) (actOf fl (fun _ => true) b a) W) :
    ∀ (g f : Nat) (listed listed1 : Array Bool) (done : Nat → Bool) (b : Nat → Nat) (a : Act) (W : World), f + und fl done ≤ g → listed.size = ops.size → listed1.size = n →
      (∀ i, i < n → listed.getD i false = listed1.getD i false) → (∀ q ∈ fl, listed.getD q.idx false = done q.idx) → (∀ t, m ≤ t → listed.getD t false = false) →
      wpAnyC P .any ops1 w0 Qh f listed1 a → Made fl done b w0 W → wpAny P .any ops Q (g + (ops.size - m)) listed (actOf fl done b a) W := by
  have hsel := Region.noSelect_spec hs
  have hsub : ∀ (listed listed1 : Array Bool), listed1.size = n → listed.size = ops.size → (∀ i, i < n → listed.getD i false = listed1.getD i false) → ∀ i, i < n →
      (i ∈ Region.ready .any ops listed ↔ i ∈ Region.ready .any ops1 listed1) := by
    intro listed listed1 hs1 hs h2 i hi
    rw [mem_ready, mem_ready, hag i hi]
    have eT : listed.getD i true = listed1.getD i true := by
      have := h2 i hi
      have a1 : i < listed.size := by omega
      have a2 : i < listed1.size := by omega
      simp [a1, a2] at this ⊢; exact this
    rw [eT]
    constructor
    · rintro ⟨g1, o, ho, g2⟩
      refine ⟨g1, o, ho, fun e he hb => ?_⟩
      rw [← h2 e.on (by have := hedge i o (by rw [hag i hi]; exact ho) e he hb; omega)]
      exact g2 e he hb
    · rintro ⟨g1, o, ho, g2⟩
      refine ⟨g1, o, ho, fun e he hb => ?_⟩
      rw [h2 e.on (by have := hedge i o (by rw [hag i hi]; exact ho) e he hb; omega)]
      exact g2 e he hb
  -- all have come up but the tail
  have hend : ∀ (g f : Nat) (listed listed1 : Array Bool) (done : Nat → Bool) (b : Nat → Nat) (a : Act) (W : World), listed.size = ops.size → listed1.size = n →
      (∀ i, i < n → listed.getD i false = listed1.getD i false) → (∀ q ∈ fl, listed.getD q.idx false = done q.idx) → (∀ t, m ≤ t → listed.getD t false = false) →
      wpAnyC P .any ops1 w0 Qh f listed1 a → Made fl done b w0 W → Region.ready .any ops1 listed1 = [] → (∀ q ∈ fl, done q.idx = true) → wpAny P .any ops Q (g + (ops.size - m)) listed (actOf fl done b a) W := by
    intro g f listed listed1 done b a W hs0 hs1 h2 h3 h4 hC hM hr hd
    have hl1 := all_listed h1 hedge hs1 hr
    have hq : Qh a := by cases f with | zero => exact hC.2 | succ f => exact hC.1 hr
    have hfull : listed = (Array.replicate m true) ++ (Array.replicate (ops.size - m) false) := by
      apply Array.ext
      · simp; omega
      · intro i hi hi'
        have e1 : listed.getD i false = listed[i] := by simp [hi]
        rw [← e1]
        by_cases hin : i < m
        · have : listed.getD i false = true := by
            by_cases hi2 : i < n
            · rw [h2 i hi2, hl1 i hi2]
            · obtain ⟨q, hq, hqi⟩ := hall i (by omega) hin
              rw [← hqi, h3 q hq, hd q hq]
          rw [this, Array.getElem_append_left (by simpa using hin)]; simp
        · rw [h4 i (by omega), Array.getElem_append_right (by simpa using hin)]; simp
    have hact : actOf fl done b a = actOf fl (fun _ => true) b a := actOf_same fl (fun _ => true) done b b a (fun q hq => ⟨hd q hq, rfl⟩)
    have hM' : Made fl (fun _ => true) b w0 W := ⟨hM.1, fun q hq _ => hM.2.1 q hq (hd q hq), fun q hq r hr _ _ hne => hM.2.2 q hq r hr (hd q hq) (hd r hr) hne⟩
    rw [hact, hfull]
    exact wpAny_add (hfin a b W hq hM') g
  intro g
  induction g with
  | zero =>
    intro f listed listed1 done b a W hle hs0 hs1 h2 h3 h4 hC hM
    have hf : f = 0 := by omega
    subst hf
    refine hend 0 0 listed listed1 done b a W hs0 hs1 h2 h3 h4 hC hM hC.1 (fun q hq => ?_)
    have hu : und fl done = 0 := by omega
    unfold und at hu
    have := List.filter_eq_nil_iff.1 (List.length_eq_zero_iff.1 hu) q hq
    simpa using this
  | succ g ih =>
    intro f listed listed1 done b a W hle hs0 hs1 h2 h3 h4 hC hM
    by_cases hD : Region.ready .any ops1 listed1 = [] ∧ ∀ q ∈ fl, done q.idx = true
    · exact hend (g + 1) f listed listed1 done b a W hs0 hs1 h2 h3 h4 hC hM hD.1 hD.2
    -- something of the head, or a variable, has not come up
    have hopen : ∃ k, k < m ∧ listed.getD k false = false ∧ k ∈ Region.ready .any ops listed := by
      by_cases hr : Region.ready .any ops1 listed1 = []
      · have : ∃ q, q ∈ fl ∧ done q.idx = false := by
          apply Classical.byContradiction
          intro hno
          apply hD
          refine ⟨hr, fun q hq => ?_⟩
          cases hdq : done q.idx with
          | true => rfl
          | false => exact absurd ⟨q, hq, hdq⟩ hno
        obtain ⟨q, hq, hdq⟩ := this
        obtain ⟨o, ho, _, _, hafter, _⟩ := hflt q hq
        have hlt := hidx q hq
        have hl : listed.getD q.idx false = false := by rw [h3 q hq, hdq]
        exact ⟨q.idx, hlt.2, hl, mem_ready.2 ⟨getD_in (by omega) hl, o, ho, fun e he => by rw [hafter] at he; simp at he⟩⟩
      · obtain ⟨k, hk⟩ := List.exists_mem_of_ne_nil _ hr
        have hkn : k < n := by
          obtain ⟨_, o, ho, _⟩ := mem_ready.1 hk
          have := (Array.getElem?_eq_some_iff.1 ho).1
          omega
        exact ⟨k, by omega, by rw [h2 k hkn]; exact getD_both (mem_ready.1 hk).1, (hsub listed listed1 hs1 hs0 h2 k hkn).2 hk⟩
    obtain ⟨k, hkm, hkl, hkr⟩ := hopen
    rw [show g + 1 + (ops.size - m) = (g + (ops.size - m)) + 1 by omega]
    refine ⟨fun h0 => (by rw [h0] at hkr; cases hkr), fun i hi => ?_⟩
    have him : i < m := by
      rcases Nat.lt_or_ge i m with h | h
      · exact h
      · obtain ⟨_, o, ho, hall'⟩ := mem_ready.1 hi
        obtain ⟨e, he, hb', hon⟩ := htail i o h ho k hkm
        have := hall' e he hb'
        rw [hon, hkl] at this
        cases this
    rcases Nat.lt_or_ge i n with hin' | hin'
    · -- an operation of the head
      have hi1 := (hsub listed listed1 hs1 hs0 h2 i hin').1 hi
      cases f with
      | zero => rw [hC.1] at hi1; cases hi1
      | succ f =>
        obtain ⟨o, ho, hcase⟩ := hC.2 i hi1
        have ho' : ops[i]? = some o := by rw [← hag i hin']; exact ho
        have hnl := fun q hq => (hlook i o ho q hq).1
        obtain ⟨ex, wa⟩ := execOp_actOf (ops := ops1) o (fun cs b => hsel i o cs b ho) fl done b a hnl
        have hwant : Region.wanted o (yielded ops (actOf fl done b a).tmps) = Region.wanted o (yielded ops1 a.tmps) := by
          rw [← wa]
          unfold Region.wanted
          cases hgd : o.guard with
          | none => rfl
          | some gb =>
            obtain ⟨g', b'⟩ := gb
            have := hag g' (hguard i o g' b' ho hgd)
            simp only [yielded, this]
        have hnext : ∀ (v : Value) (W' : World), wpAnyC P .any ops1 w0 Qh f (listed1.setIfInBounds i true) (a.put o.dst v) → Made fl done b w0 W' →
            wpAny P .any ops Q (g + (ops.size - m)) (listed.setIfInBounds i true) ((actOf fl done b a).put o.dst v) W' := by
          intro v W' hc hM'
          rw [actOf_put fl done b a o.dst v (fun q hq => (hlook i o ho q hq).2)]
          refine ih f (listed.setIfInBounds i true) (listed1.setIfInBounds i true) done b (a.put o.dst v) W' (by omega) (by simp [hs0]) (by simp [hs1]) (fun j hj => ?_) (fun q hq => ?_) (fun t ht => by rw [getD_set_ne false (by omega)]; exact h4 t ht) hc hM'
          · by_cases hij : i = j
            · subst hij
              have a1 : i < listed.size := by omega
              have a2 : i < listed1.size := by omega
              simp [a1, a2]
            · rw [getD_set_ne false hij, getD_set_ne false hij]; exact h2 j hj
          · have := (hidx q hq).1
            rw [getD_set_ne false (by omega)]; exact h3 q hq
        unfold wpOp
        rw [ho']
        simp only
        rw [hwant]
        rcases hcase with ⟨hw, v, hv, hk⟩ | ⟨hw, hk⟩
        · rw [if_pos hw]
          left
          have hM0 := hM
          obtain ⟨⟨x, rfl⟩, _, _⟩ := hM
          refine wp_of_calm (v := v) (fun x' => by rw [ex]; exact hv x') (fun y => hnext v _ hk ?_)
          exact hM0.ext y
        · rw [if_neg (by rw [hw]; exact Bool.false_ne_true)]
          exact hnext undef W hk hM
    · -- a variable is made
      obtain ⟨q, hq, hqi⟩ := hall i hin' him
      subst hqi
      obtain ⟨o, ho, hdst, hgd, hafter, hrun⟩ := hflt q hq
      have hdq : done q.idx = false := by
        rw [← h3 q hq]; exact getD_both (mem_ready.1 hi).1
      unfold wpOp
      rw [ho]
      simp only
      rw [if_pos (by simp [Region.wanted, hgd])]
      left
      unfold Oper.wp
      rw [hrun, Oper.upon_value, hdst, ← actOf_done fl done b a W.heap.size q hq hin hdn hdq]
      have hu := und_done fl done q hq hin hdq
      have hqx := hidx q hq
      refine ih f (listed.setIfInBounds q.idx true) listed1 (setB done q.idx) (setN b q.idx W.heap.size) a (W.alloc q.obj) (by omega) (by simp [hs0]) hs1 (fun j hj => by rw [getD_set_ne false (by omega)]; exact h2 j hj) (fun r hr => ?_)
        (fun t ht => by rw [getD_set_ne false (by omega)]; exact h4 t ht) hC (hM.alloc q hin hq)
      by_cases e : r.idx = q.idx
      · have a1 : q.idx < listed.size := by omega
        rw [e]; simp [setB, a1]
      · rw [getD_set_ne false (fun h => e h.symm)]
        simp only [setB, e, if_false]
        exact h3 r hr
end

theorem actOf_none (fl : List Flt) (b : Nat → Nat) (a : Act) : actOf fl (fun _ => false) b a = a := by
  induction fl with
  | nil => rfl
  | cons q fl ih => rw [actOf_cons, if_neg (by simp), ih]

/-- All that the region's text must be, as one Bool. -/
def floatB (ops : Array Oper) (n m : Nat) (ds : List (Nat × Tmp)) : Bool :=
  decide (n ≤ m) && decide (m ≤ ops.size) && decide (n + ds.length ≤ m) &&
  ((List.range n).all fun i => match ops[i]? with
    | some o => (o.after.all fun e => !Region.binds .any e || decide (e.on < i)) && (match o.guard with | some (g, _) => decide (g < n) | none => true) &&
        ds.all fun q => !(o.looksAt ops).contains q.2 && o.dst != some q.2
    | none => false) &&
  (ds.all fun q => decide (n ≤ q.1) && decide (q.1 < m) && (match ops[q.1]? with | some o => o.dst == some q.2 && o.guard.isNone && o.after.isEmpty | none => false)) &&
  decide ((ds.map (·.1)).Nodup) && decide ((ds.map (·.2)).Nodup) &&
  ((List.range m).all fun i => decide (i < n) || ds.any fun q => q.1 == i) &&
  ((List.range ops.size).all fun t => decide (t < m) || (List.range m).all fun j => Region.waitsFor .any ops t j) &&
  Region.seqB .any ops (ops.size - m) m ((Array.replicate m true) ++ (Array.replicate (ops.size - m) false))

theorem looksAt_take (l : List Oper) (n : Nat) (o : Oper) (hg : ∀ g b, o.guard = some (g, b) → g < n) : o.looksAt (l.take n).toArray = o.looksAt l.toArray := by
  unfold Oper.looksAt
  cases h : o.guard with
  | none => rfl
  | some gb =>
    obtain ⟨g, b⟩ := gb
    have := hg g b h
    simp [this]

/-- **THE REGION**: n operations of a calm head, then (up to m) new variables, then the tail. -/
theorem wp_region_float {P : Program} {id : Nat} {Q : Exit → Act → World → Prop} {a : Act} {w : World} {l : List Oper} (n m : Nat) (fl : List Flt) (hm : P.follows .mixedOrders = true)
    (hB : Region.lexB .any (l.take n).toArray = true) (hF : floatB l.toArray n m (fl.map fun q => (q.idx, q.dst)) = true)
    (hz : ∀ q ∈ fl, ∀ o, l[q.idx]? = some o → ∀ (a : Act) (W : World), (execOp a.eval o).run P W = .ok (.value (.pointer (some ⟨W.heap.size, 0, none⟩))) (W.alloc q.obj))
    (h : wpCalm P (l.take n).toArray w (fun a' => ∀ b W, Made fl (fun _ => true) b w W → wpList P l.toArray Q (l.drop m) (actOf fl (fun _ => true) b a') W) (l.take n) a) : (Code.region id l.toArray true).wp P Q a w := by
  simp only [floatB, Bool.and_eq_true, decide_eq_true_eq, List.all_eq_true, List.mem_range] at hF
  obtain ⟨⟨⟨⟨⟨⟨⟨⟨⟨hnm, hml⟩, hlen0⟩, hH⟩, hfl⟩, hn1⟩, hn2⟩, hcov⟩, hT⟩, hS⟩ := hF
  simp only [Region.lexB, Bool.and_eq_true] at hB
  have hn : n ≤ l.toArray.size := by omega
  have hsz : (l.take n).toArray.size = n := by simp at hn ⊢; omega
  have hag : ∀ i, i < n → (l.take n).toArray[i]? = l.toArray[i]? := fun i hi => by simp [hi]
  have hop : ∀ i o, (l.take n).toArray[i]? = some o → i < n ∧ l.toArray[i]? = some o := fun i o ho => by
    have h1 := (Array.getElem?_eq_some_iff.1 ho).1
    rw [hsz] at h1
    exact ⟨h1, by rw [← hag i h1]; exact ho⟩
  have hhead : ∀ (i : Nat) (o : Oper), (l.take n).toArray[i]? = some o → (o.after.all fun e => !Region.binds .any e || decide (e.on < i)) = true ∧ (∀ g b, o.guard = some (g, b) → g < n) ∧ ∀ q ∈ fl, q.dst ∉ o.looksAt l.toArray ∧ o.dst ≠ some q.dst := by
    intro i o ho
    obtain ⟨hi, ho'⟩ := hop i o ho
    have := hH i hi
    rw [ho'] at this
    simp only [Bool.and_eq_true] at this
    refine ⟨this.1.1, fun g b hg => ?_, fun q hq => ?_⟩
    · have h2 := this.1.2
      rw [hg] at h2
      simpa using h2
    · have h2 := List.all_eq_true.1 this.2 (q.idx, q.dst) (List.mem_map.2 ⟨q, hq, rfl⟩)
      simp only [Bool.and_eq_true, Bool.not_eq_true', bne_iff_ne, ne_eq] at h2
      refine ⟨?_, h2.2⟩
      have h3 := h2.1
      intro hmem
      rw [List.contains_iff_mem.2 hmem] at h3
      cases h3
  refine wp_region_any hm ?_
  have HC := wpAnyC_lex (P := P) (md := .any) (w0 := w) hB.1 (l.take n) 0 (Array.replicate (l.take n).toArray.size false) a (by simp) (by simpa using hB.2) h
  have hlen : (l.take n).length = n := by simpa using hsz
  rw [hlen] at HC
  have hund : n + und fl (fun _ => false) ≤ m := by
    have h1 : und fl (fun _ => false) = fl.length := by
      unfold und
      simp
    rw [h1]
    simpa using hlen0
  have hmem : ∀ q ∈ fl, (q.idx, q.dst) ∈ fl.map fun q => (q.idx, q.dst) := fun q hq => List.mem_map.2 ⟨q, hq, rfl⟩
  have hfl' : ∀ q ∈ fl, (n ≤ q.idx ∧ q.idx < m) ∧ ∃ o, l.toArray[q.idx]? = some o ∧ o.dst = some q.dst ∧ o.guard = none ∧ o.after = #[] := by
    intro q hq
    have h1 := hfl _ (hmem q hq)
    simp only at h1
    refine ⟨h1.1, ?_⟩
    have h2 := h1.2
    cases ho : l.toArray[q.idx]? with
    | none => rw [ho] at h2; cases h2
    | some o =>
      rw [ho] at h2
      simp only [Bool.and_eq_true, beq_iff_eq, Option.isNone_iff_eq_none, Array.isEmpty_iff] at h2
      exact ⟨o, rfl, h2.1.1, h2.1.2, h2.2⟩
  have H := wpAny_float (P := P) (ops := l.toArray) (ops1 := (l.take n).toArray) (Q := Q) (w0 := w) (n := n) (m := m) (fl := fl)
    (Qh := fun a' => ∀ b W, Made fl (fun _ => true) b w W → wpList P l.toArray Q (l.drop m) (actOf fl (fun _ => true) b a') W) hsz hnm hml hag hB.1
    (fun i o ho e he hb => by
      have h2 := Array.all_eq_true_iff_forall_mem.1 (hhead i o ho).1 e he
      simpa [hb] using h2)
    (fun i o g b ho hg => (hhead i o ho).2.1 g b hg)
    (by simpa [List.map_map, Function.comp_def] using hn1) (by simpa [List.map_map, Function.comp_def] using hn2)
    (fun i o ho q hq => by rw [looksAt_take l n o (hhead i o ho).2.1]; exact (hhead i o ho).2.2 q hq)
    (fun q hq => (hfl' q hq).1)
    (fun i h1 h2 => by
      have := hcov i h2
      simp only [Bool.or_eq_true, decide_eq_true_eq] at this
      rcases this with h3 | h3
      · omega
      · obtain ⟨p, hp, he⟩ := List.any_eq_true.1 h3
        obtain ⟨q, hq, rfl⟩ := List.mem_map.1 hp
        exact ⟨q, hq, by simpa using he⟩)
    (fun q hq => by
      obtain ⟨_, o, ho, hd, hg, ha⟩ := hfl' q hq
      exact ⟨o, ho, hd, hg, ha, hz q hq o (by simpa using ho)⟩)
    (fun t o ht ho j hj => by
      have htl : t < l.toArray.size := (Array.getElem?_eq_some_iff.1 ho).1
      have h1 := hT t htl
      simp only [Bool.or_eq_true, decide_eq_true_eq] at h1
      rcases h1 with h1 | h1
      · omega
      · have h2 := List.all_eq_true.1 h1 j (List.mem_range.2 hj)
        obtain ⟨o', ho2, e, he, hb, hon⟩ := Region.waitsFor_spec h2
        have : o' = o := Option.some.inj (ho2.symm.trans ho)
        subst this
        exact ⟨e, he, hb, hon⟩)
    (fun a' b W hq hM => by
      have hl : (l.drop m).length = l.toArray.size - m := by simp
      have := wpAny_of_seq (P := P) (md := .any) (ops := l.toArray) (Q' := Q) (l.drop m) m ((Array.replicate m true) ++ (Array.replicate (l.toArray.size - m) false)) (actOf fl (fun _ => true) b a') W (fun j => by simp [List.getElem?_drop]) (by rw [hl]; exact hS) (hq b W hM)
      rwa [hl] at this)
    m n (Array.replicate l.toArray.size false) (Array.replicate (l.take n).toArray.size false) (fun _ => false) (fun _ => 0) a { w with drawn := w.drawn + 1 } hund (by simp) (by simp at hsz ⊢; omega)
    (fun i hi => by rw [getD_replicate_false, getD_replicate_false]) (fun q _ => getD_replicate_false _ _) (fun t _ => getD_replicate_false _ _) HC
    ⟨ext_of (Below.refl _ w).drew, fun q _ hd => (by cases hd), fun q _ r _ hd => (by cases hd)⟩
  rw [actOf_none, show m + (l.toArray.size - m) = l.toArray.size by omega] at H
  exact H

/-! For use. -/
theorem Calls_ext3 {P : Program} {f : FuncId} {args : Array Value} {w : World} {x : Nat → Array Obj × Nat} {v : Value}
    (h : Calls P f args (ext w x) fun e w' => e = .returned v ∧ ∃ y, w' = ext (ext w x) y) : Calls P f args (ext w x) fun e w'' => e = .returned v ∧ ∃ y, w'' = ext w (cat x y) :=
  h.mono fun _ _ ⟨he, y, hm⟩ => ⟨he, y, by rw [hm, ext_ext]⟩
theorem Made.one {q : Flt} {b : Nat → Nat} {w W : World} (h : Made [q] (fun _ => true) b w W) : w.heap.size ≤ b q.idx ∧ W.heap[b q.idx]? = some q.obj ∧ Gr w.heap.size w W := by
  obtain ⟨⟨x, rfl⟩, h2, _⟩ := h
  have := h2 q List.mem_cons_self rfl
  exact ⟨this.1, this.2, (Gr.refl w).ext x⟩
theorem Made.two {q r : Flt} {b : Nat → Nat} {w W : World} (h : Made [q, r] (fun _ => true) b w W) (hne : q.idx ≠ r.idx) :
    w.heap.size ≤ b q.idx ∧ W.heap[b q.idx]? = some q.obj ∧ w.heap.size ≤ b r.idx ∧ W.heap[b r.idx]? = some r.obj ∧ b q.idx ≠ b r.idx ∧ Gr w.heap.size w W := by
  obtain ⟨⟨x, rfl⟩, h2, h3⟩ := h
  have a1 := h2 q List.mem_cons_self rfl
  have a2 := h2 r (List.mem_cons_of_mem _ List.mem_cons_self) rfl
  exact ⟨a1.1, a1.2, a2.1, a2.2, h3 q List.mem_cons_self r (List.mem_cons_of_mem _ List.mem_cons_self) rfl rfl hne, (Gr.refl w).ext x⟩
end Go.Proofs.Qxb6500680aGreatDoor
