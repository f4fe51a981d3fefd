import Derived.Test.Qxb6500680aGreatDoorTail
namespace Go.Proofs.Qxb6500680aGreatDoor
open Go.RowKit

/-! CALM: one value, in every world that has grown out of w0; what is left has grown out of the world that was met. -/
section
variable {P : Program} {ops : Array Oper} {md : Region.Mode} {w0 : World}

def calmAt (P : Program) (o : Oper) (a : Act) (w0 : World) (v : Value) : Prop :=
  ∀ x, Oper.quietUpon P (fun w'' => ∃ y, w'' = ext (ext w0 x) y) (ext w0 x) v ((execOp a.eval o).run P (ext w0 x))
def calmOp (P : Program) (o : Oper) (a : Act) (w0 : World) (K : Act → Prop) : Prop := ∃ v, calmAt P o a w0 v ∧ K (a.put o.dst v)
/-- The walk in the text's order. -/
def wpCalm (P : Program) (ops : Array Oper) (w0 : World) (Q : Act → Prop) : List Oper → Act → Prop
  | [], a => Q a
  | o :: rest, a => if Region.wanted o (yielded ops a.tmps) then calmOp P o a w0 (wpCalm P ops w0 Q rest) else wpCalm P ops w0 Q rest (a.put o.dst undef)
theorem wpCalm_nil {Q : Act → Prop} {a : Act} (h : Q a) : wpCalm P ops w0 Q [] a := h
theorem wpCalm_step {Q : Act → Prop} {a : Act} {o : Oper} {rest : List Oper}
    (h : ∀ K : Act → Prop, (∀ a, wpCalm P ops w0 Q rest a → K a) → if Region.wanted o (yielded ops a.tmps) then calmOp P o a w0 K else K (a.put o.dst undef)) : wpCalm P ops w0 Q (o :: rest) a :=
  h _ (fun _ h => h)

/-- Operation number i, as it comes up. -/
def cOp (P : Program) (ops : Array Oper) (w0 : World) (i : Nat) (K : Act → Prop) (a : Act) : Prop :=
  ∃ o, ops[i]? = some o ∧ ((Region.wanted o (yielded ops a.tmps) = true ∧ calmOp P o a w0 K) ∨ (Region.wanted o (yielded ops a.tmps) = false ∧ K (a.put o.dst undef)))
/-- In whatever order. -/
def wpAnyC (P : Program) (md : Region.Mode) (ops : Array Oper) (w0 : World) (Q : Act → Prop) : Nat → Array Bool → Act → Prop
  | 0, listed, a => Region.ready md ops listed = [] ∧ Q a
  | f + 1, listed, a => (Region.ready md ops listed = [] → Q a) ∧ ∀ i ∈ Region.ready md ops listed, cOp P ops w0 i (wpAnyC P md ops w0 Q f (listed.setIfInBounds i true)) a

/-- What operation o yields in state a. -/
def YieldsC (P : Program) (ops : Array Oper) (w0 : World) (o : Oper) (v : Value) (a : Act) : Prop :=
  (Region.wanted o (yielded ops a.tmps) = true ∧ calmAt P o a w0 v) ∨ (Region.wanted o (yielded ops a.tmps) = false ∧ v = undef)
theorem cOp_iff {i : Nat} {o : Oper} (ho : ops[i]? = some o) {K : Act → Prop} {a : Act} : cOp P ops w0 i K a ↔ ∃ v, YieldsC P ops w0 o v a ∧ K (a.put o.dst v) := by
  constructor
  · rintro ⟨o', ho', h⟩
    obtain rfl : o' = o := Option.some.inj (ho'.symm.trans ho)
    rcases h with ⟨hw, v, hv, hk⟩ | ⟨hw, hk⟩
    · exact ⟨v, .inl ⟨hw, hv⟩, hk⟩
    · exact ⟨undef, .inr ⟨hw, rfl⟩, hk⟩
  · rintro ⟨v, hy, hk⟩
    rcases hy with ⟨hw, hv⟩ | ⟨hw, rfl⟩
    · exact ⟨o, ho, .inl ⟨hw, v, hv, hk⟩⟩
    · exact ⟨o, ho, .inr ⟨hw, hk⟩⟩
/-- It hangs on nothing that o does not look at. -/
theorem YieldsC.put {oi oj : Oper} {v u : Value} {a : Act} (hsi : ∀ cs b, oi.op ≠ .select cs b) (h : ∀ d, oj.dst = some d → d ∉ oi.looksAt ops) :
    YieldsC P ops w0 oi v (a.put oj.dst u) ↔ YieldsC P ops w0 oi v a := by
  unfold YieldsC calmAt
  rw [execOp_put oi hsi a oj.dst u h, wanted_put oi a oj.dst u h]

/-- Two that are apart change places. -/
theorem cOp_swap {j : Nat} {oi oj : Oper} {v : Value} (hj : ops[j]? = some oj) (hap : oi.apart ops oj = true) (hsi : ∀ cs b, oi.op ≠ .select cs b) (hsj : ∀ cs b, oj.op ≠ .select cs b)
    {K : Act → Prop} {a : Act} (hy : YieldsC P ops w0 oi v a) (h : cOp P ops w0 j K (a.put oi.dst v)) : cOp P ops w0 j (fun a' => YieldsC P ops w0 oi v a' ∧ K (a'.put oi.dst v)) a := by
  obtain ⟨h1, h2, h3⟩ := Oper.apart_spec hap
  obtain ⟨u, hu, hk⟩ := (cOp_iff hj).1 h
  refine (cOp_iff hj).2 ⟨u, (YieldsC.put hsj h1).1 hu, (YieldsC.put hsi h3).2 hy, ?_⟩
  rw [← Act.put_comm a v u h2]
  exact hk
theorem cOp_mono {i : Nat} {K K' : Act → Prop} {a : Act} (hK : ∀ a, K a → K' a) (h : cOp P ops w0 i K a) : cOp P ops w0 i K' a := by
  have ⟨o, ho, _⟩ := h
  obtain ⟨v, hy, hk⟩ := (cOp_iff ho).1 h
  exact (cOp_iff ho).2 ⟨v, hy, hK _ hk⟩

/-- What is free may be taken first. -/
theorem wpAnyC_first {Q : Act → Prop} {i : Nat} {oi : Oper} {v : Value} (hi : ops[i]? = some oi) (hs : Region.noSelect ops = true) : ∀ (f : Nat) (listed : Array Bool) (a : Act),
    (∀ j oj, ops[j]? = some oj → j ≠ i → listed.getD j true = false → (∀ e ∈ oj.after, Region.binds md e = true → e.on ≠ i) → oi.apart ops oj = true) →
    i ∈ Region.ready md ops listed → YieldsC P ops w0 oi v a → wpAnyC P md ops w0 Q f (listed.setIfInBounds i true) (a.put oi.dst v) → wpAnyC P md ops w0 Q (f + 1) listed a := by
  have hsel := Region.noSelect_spec hs
  intro f
  induction f with
  | zero =>
    intro listed a _ hr hy H
    refine ⟨fun h => (by rw [h] at hr; cases hr), fun j hj => ?_⟩
    rcases Decidable.em (j = i) with rfl | hji
    · exact (cOp_iff hi).2 ⟨v, hy, H⟩
    · have := ready_mono hj hji
      rw [H.1] at this
      cases this
  | succ f ih =>
    intro listed a hfree hr hy H
    refine ⟨fun h => (by rw [h] at hr; cases hr), fun j hj => ?_⟩
    rcases Decidable.em (j = i) with rfl | hji
    · exact (cOp_iff hi).2 ⟨v, hy, H⟩
    · obtain ⟨hjun, oj, hoj, hall⟩ := mem_ready.1 hj
      have hnot : ∀ e ∈ oj.after, Region.binds md e = true → e.on ≠ i := by
        intro e he hb heq
        have h1 := hall e he hb
        rw [heq, getD_both (mem_ready.1 hr).1] at h1
        cases h1
      have h2 := cOp_swap hoj (hfree j oj hoj hji hjun hnot) (fun cs b => hsel i oi cs b hi) (fun cs b => hsel j oj cs b hoj) hy (H.2 j (ready_mono hj hji))
      refine cOp_mono (fun a' h3 => ih (listed.setIfInBounds j true) a' ?_ (ready_mono hr (Ne.symm hji)) h3.1 ?_) h2
      · intro k ok hk hki hun hno
        refine hfree k ok hk hki ?_ hno
        rcases Decidable.em (j = k) with rfl | hjk
        · exact hjun
        · rwa [getD_set_ne true hjk] at hun
      · rw [Array.setIfInBounds_comm _ _ hji]
        exact h3.2
/-- One walk in the text's order serves every order. -/
theorem wpAnyC_lex {Q : Act → Prop} (hs : Region.noSelect ops = true) : ∀ (l : List Oper) (k : Nat) (listed : Array Bool) (a : Act), (∀ j, l[j]? = ops[k + j]?) →
    Region.lexFrom md ops l.length k listed = true → wpCalm P ops w0 Q l a → wpAnyC P md ops w0 Q l.length listed a
  | [], _, _, _, _, hB, h => ⟨by simpa [Region.lexFrom] using hB, h⟩
  | o :: l, k, listed, a, hl, hB, h => by
    have h0 : ops[k]? = some o := by simpa using (hl 0).symm
    simp only [List.length_cons, Region.lexFrom, Bool.and_eq_true] at hB
    obtain ⟨⟨hr, hf⟩, hB'⟩ := hB
    have hy : ∃ v, YieldsC P ops w0 o v a ∧ wpCalm P ops w0 Q l (a.put o.dst v) := by
      unfold wpCalm at h
      split at h
      · rename_i hw
        obtain ⟨v, hv, hk⟩ := h
        exact ⟨v, .inl ⟨hw, hv⟩, hk⟩
      · rename_i hw
        exact ⟨undef, .inr ⟨by simpa using hw, rfl⟩, h⟩
    obtain ⟨v, hy, hK⟩ := hy
    exact wpAnyC_first h0 hs l.length listed a (Region.free_spec h0 hf) (by simpa using hr) hy
      (wpAnyC_lex hs l (k + 1) _ _ (fun j => by have := hl (j + 1); simpa [Nat.add_assoc, Nat.add_comm 1 j] using this) hB' hK)
/-- A calm operation, run. -/
theorem wp_of_calm {o : Oper} {a : Act} {v : Value} {x : Nat → Array Obj × Nat} {K : Act → World → Prop} {Q : Exit → Act → World → Prop} (h : calmAt P o a w0 v) (hK : ∀ y, K (a.put o.dst v) (ext (ext w0 x) y)) : o.wp P a (ext w0 x) K Q := by
  have h1 := h x
  have h0 : K (a.put o.dst v) (ext w0 x) := by
    obtain ⟨y, hy⟩ := (Gr.refl (ext w0 x)).of
    rw [hy]; exact hK y
  unfold Oper.wp
  generalize (execOp a.eval o).run P (ext w0 x) = r at *
  cases r with
  | ok n w' =>
    cases n <;> simp only [Oper.quietUpon] at h1 <;> simp only [Oper.upon]
    case value u => obtain ⟨e1, e2⟩ := h1; rw [e1, e2]; exact h0
    case skip => obtain ⟨e1, e2⟩ := h1; rw [e1, ← e2]; exact h0
    case enter f args =>
      obtain ⟨e1, hc⟩ := h1
      rw [e1]
      refine hc.mono ?_
      rintro e w'' ⟨rfl, y, rfl⟩
      exact hK y
  | halt x w' => simp only [Oper.quietUpon] at h1
end
end Go.Proofs.Qxb6500680aGreatDoor
