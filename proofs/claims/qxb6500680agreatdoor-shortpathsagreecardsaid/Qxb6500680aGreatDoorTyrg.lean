import Derived.Test.Qxb6500680aGreatDoorTyal
namespace Go.Proofs.Qxb6500680aGreatDoor
open Go.RowKit Go.BigFrame
set_option linter.unusedSimpArgs false
variable {P : Program}
/-- The shape of a slot. -/
def ty (Γ : List (Option Sh)) (s : Nat) : Option Sh := (Γ[s]?).join
def deps (o : Oper) : List Nat := (o.after.toList.filter fun e => Region.binds .any e).map (·.on)
def guardIs : Option (Nat × Bool) → Option (Nat × Bool) → Bool
  | none, none => true
  | some (g, b), some (g', b') => decide (g = g') && b == b'
  | _, _ => false
theorem guardIs_eq : ∀ {x y : Option (Nat × Bool)}, guardIs x y = true → x = y
  | none, none, _ => rfl
  | some (g, b), some (g', b'), h => by simp [guardIs] at h; rw [h.1, h.2]
  | none, some _, h => by simp [guardIs] at h
  | some _, none, h => by simp [guardIs] at h
/-- The slot s is written ahead of the operation o. -/
def avail (ops : Array Oper) (D : Nat) (o : Oper) (s : Nat) : Bool :=
  D.testBit s || (deps o).any fun j => match ops[j]? with
    | some p => decide (p.dst = some s) && (guardIs p.guard none || guardIs p.guard o.guard)
    | none => false
/-- .. or is, where the operation g's Bool (in slot c) is b. -/
def availIf (ops : Array Oper) (D : Nat) (o : Oper) (c : Nat) (b : Bool) (s : Nat) : Bool :=
  avail ops D o s || (deps o).any fun j => match ops[j]? with
    | some p => decide (p.dst = some s) && (match p.guard with
      | some (g, b') => b == b' && (match ops[g]? with | some q => decide (q.dst = some c) | none => false)
      | none => false)
    | none => false
def opdOf (Γ : List (Option Sh)) (av : Nat → Bool) : Operand → Option Sh
  | .tmp s => if av s then ty Γ s else none
  | .const v => (const1 v).map .one
  | _ => none
def opTyAt (P : Program) (sig : Ev) (Γ : List (Option Sh)) (ops : Array Oper) (D : Nat) (o : Oper) : Option (Option Sh) :=
  match o.op with
  | .pick (.tmp c) x y => match opdOf Γ (avail ops D o) (.tmp c), opdOf Γ (availIf ops D o c true) x, opdOf Γ (availIf ops D o c false) y with
    | some (.one (.cell .bool)), some s, some t => if s.is t then some (some s) else none
    | _, _, _ => none
  | op => opTy P sig (opdOf Γ (avail ops D o)) op
def oneOK (P : Program) (sig : Ev) (Γ : List (Option Sh)) (N : Nat) (ops : Array Oper) (D i : Nat) (o : Oper) : Bool :=
  (match opTyAt P sig Γ ops D o, o.dst with
    | some (some s), some d => (match ty Γ d with | some t => t.is s | none => false) && decide (d < N)
    | some _, none => true
    | _, _ => false) &&
  (deps o).all (fun j => decide (j < i)) &&
  (match o.guard with
    | none => true
    | some (g, _) => (deps o).any (fun j => j == g) && (match o.dst with | some d => !D.testBit d | none => true) && (match ops[g]? with | some q => q.dst.isSome | none => false))
def dsts (ops : List Oper) : List Nat := ops.filterMap (·.dst)
def nodupB : List Nat → Bool
  | [] => true
  | d :: r => !r.contains d && nodupB r
theorem nodupB_spec : ∀ {l : List Nat}, nodupB l = true → l.Nodup
  | [], _ => List.nodup_nil
  | d :: r, h => by simp [nodupB] at h; exact List.nodup_cons.2 ⟨h.1, nodupB_spec h.2⟩
def regOK (P : Program) (sig : Ev) (Γ : List (Option Sh)) (N : Nat) (ops : Array Oper) (D : Nat) : Bool :=
  nodupB (dsts ops.toList) && (ops.toList.zipIdx).all fun p => oneOK P sig Γ N ops D p.2 p.1
/-- The slots that a region's unguarded operations write. -/
def regD (ops : List Oper) (D : Nat) : Nat := ops.foldl (fun D o => match o.guard, o.dst with | none, some d => D ||| (1 <<< d) | _, _ => D) D
section
variable {sig : Ev} {Γ : List (Option Sh)} {N D base : Nat} {w0 : World} {ops : Array Oper} {Gw : World → Prop}
def Typed (Γ : List (Option Sh)) (H : Hp) (a : Act) (s : Nat) : Prop := ∃ sh v, ty Γ s = some sh ∧ a.tmps[s]? = some v ∧ HasS H sh v
theorem Typed.eval {H : Hp} {a : Act} {s : Nat} {sh : Sh} (h : Typed Γ H a s) (hs : ty Γ s = some sh) : HasS H sh (a.eval (.tmp s)) := by
  obtain ⟨sh', v, h1, h2, h3⟩ := h
  rw [hs] at h1
  simp at h1
  subst h1
  have : a.eval (.tmp s) = v := by simp [Act.eval, h2]
  rw [this]
  exact h3
theorem Typed.le {H H' : Hp} {a : Act} {s : Nat} (h : Typed Γ H a s) (hl : H.le H') : Typed Γ H' a s := by
  obtain ⟨sh, v, h1, h2, h3⟩ := h
  exact ⟨sh, v, h1, h2, h3.le hl⟩
theorem put_other {a : Act} {x : Option Nat} {v : Value} {s : Nat} (h : x ≠ some s) : (a.put x v).tmps[s]? = a.tmps[s]? := by
  cases x with
  | none => rfl
  | some d => simp only [Act.put]; rw [Array.getElem?_setIfInBounds_ne (fun e => h (by rw [e]))]
theorem put_same {a : Act} {v : Value} {d : Nat} (h : d < a.tmps.size) : (a.put (some d) v).tmps[d]? = some v := by
  simp only [Act.put]; rw [Array.getElem?_setIfInBounds_self_of_lt h]
theorem put_size {a : Act} {x : Option Nat} {v : Value} : (a.put x v).tmps.size = a.tmps.size ∧ (a.put x v).defers = a.defers := by
  cases x <;> simp [Act.put]
theorem Typed.put {H : Hp} {a : Act} {x : Option Nat} {v : Value} {s : Nat} (h : Typed Γ H a s) (hx : x ≠ some s) : Typed Γ H (a.put x v) s := by
  obtain ⟨sh, u, h1, h2, h3⟩ := h
  exact ⟨sh, u, h1, by rw [put_other hx]; exact h2, h3⟩
/-- In the midst of a region: these are done. -/
structure RI (Γ : List (Option Sh)) (N D base : Nat) (w0 : World) (ops : Array Oper) (listed : Nat → Prop) (H : Hp) (a : Act) (w : World) : Prop where
  wt : WT base H w
  gr : Gr base w0 w
  sz : a.tmps.size = N
  df : a.defers = []
  old : ∀ s, D.testBit s = true → Typed Γ H a s
  new : ∀ j o d, ops[j]? = some o → listed j → o.dst = some d → (∀ g b, o.guard = some (g, b) → yielded ops a.tmps g = some b) → Typed Γ H a d
  cl : ∀ j o, ops[j]? = some o → listed j → ∀ e ∈ deps o, listed e
theorem dst_inj (hn : (dsts ops.toList).Nodup) {i j d : Nat} {p q : Oper} (hi : ops[i]? = some p) (hj : ops[j]? = some q) (hp : p.dst = some d) (hq : q.dst = some d) : i = j := by
  have key : ∀ (l : List Oper), (dsts l).Nodup → ∀ (i j : Nat) (p q : Oper), l[i]? = some p → l[j]? = some q → p.dst = some d → q.dst = some d → i = j := by
    intro l
    induction l with
    | nil => intro _ i j p q h; simp at h
    | cons o l ih =>
      intro hn i j p q hi hj hp hq
      have hmem : ∀ (k : Nat) (r : Oper), l[k]? = some r → r.dst = some d → d ∈ dsts l := fun k r hk hr => List.mem_filterMap.2 ⟨r, List.mem_of_getElem? hk, hr⟩
      have hn' : (dsts l).Nodup ∧ (o.dst = some d → d ∉ dsts l) := by
        unfold dsts at hn ⊢
        rw [List.filterMap_cons] at hn
        split at hn
        · rename_i h0; exact ⟨hn, fun h => by rw [h0] at h; cases h⟩
        · rename_i b h0
          rw [List.nodup_cons] at hn
          exact ⟨hn.2, fun h => by rw [h0] at h; simp at h; subst h; exact hn.1⟩
      cases i with
      | zero =>
        simp at hi
        subst hi
        cases j with
        | zero => rfl
        | succ j => simp at hj; exact absurd (hmem j q hj hq) (hn'.2 hp)
      | succ i =>
        simp at hi
        cases j with
        | zero => simp at hj; subst hj; exact absurd (hmem i p hi hp) (hn'.2 hq)
        | succ j => simp at hj; rw [ih hn'.1 i j p q hi hj hp hq]
  exact key ops.toList hn i j p q (by simpa using hi) (by simpa using hj) hp hq
theorem yielded_put {a : Act} {x : Option Nat} {v : Value} {g : Nat} (h : ∀ q d, ops[g]? = some q → q.dst = some d → x ≠ some d) : yielded ops (a.put x v).tmps g = yielded ops a.tmps g := by
  unfold yielded
  cases hg : ops[g]? with
  | none => rfl
  | some q =>
    cases hd : q.dst with
    | none => simp [hd]
    | some d => simp [hd, put_other (h q d hg hd)]
theorem avail_typed {listed : Nat → Prop} {H : Hp} {a : Act} {w : World} {o : Oper} (hr : RI Γ N D base w0 ops listed H a w) (hdep : ∀ e ∈ deps o, listed e) (hgd : ∀ g b, o.guard = some (g, b) → yielded ops a.tmps g = some b) {s : Nat} (h : avail ops D o s = true) : Typed Γ H a s := by
  simp only [avail, Bool.or_eq_true, List.any_eq_true] at h
  rcases h with h | ⟨j, hj, h⟩
  · exact hr.old s h
  · split at h
    · rename_i p hp
      simp only [Bool.and_eq_true, Bool.or_eq_true, decide_eq_true_eq] at h
      refine hr.new j p s hp (hdep j hj) h.1 fun g b hb => ?_
      rcases h.2 with h2 | h2
      · rw [guardIs_eq h2] at hb; cases hb
      · rw [guardIs_eq h2] at hb; exact hgd g b hb
    · cases h
theorem availIf_typed {listed : Nat → Prop} {H : Hp} {a : Act} {w : World} {o : Oper} (hr : RI Γ N D base w0 ops listed H a w) (hdep : ∀ e ∈ deps o, listed e) (hgd : ∀ g b, o.guard = some (g, b) → yielded ops a.tmps g = some b) {c s : Nat} {b : Bool} (hc : a.eval (.tmp c) = .bool b) (h : availIf ops D o c b s = true) : Typed Γ H a s := by
  simp only [availIf, Bool.or_eq_true, List.any_eq_true] at h
  rcases h with h | ⟨j, hj, h⟩
  · exact avail_typed hr hdep hgd h
  · split at h
    · rename_i p hp
      simp only [Bool.and_eq_true, decide_eq_true_eq] at h
      obtain ⟨h1, h2⟩ := h
      split at h2
      · rename_i g b' hg
        simp only [Bool.and_eq_true, beq_iff_eq] at h2
        obtain ⟨rfl, h3⟩ := h2
        split at h3
        · rename_i q hq
          simp at h3
          refine hr.new j p s hp (hdep j hj) h1 fun g2 b2 hb => ?_
          rw [hg] at hb
          simp at hb
          obtain ⟨rfl, rfl⟩ := hb
          have hc' : a.tmps[c]?.getD undef = .bool b := by simpa [Act.eval] using hc
          unfold yielded
          simp only [hq, h3, Option.bind_some]
          cases ht : a.tmps[c]? with
          | none => rw [ht] at hc'; simp [undef] at hc'
          | some u => rw [ht] at hc'; simp at hc'; subst hc'; simp
        · cases h3
      · cases h2
    · cases h
theorem opd_has {H : Hp} {a : Act} {av : Nat → Bool} (h : ∀ s, av s = true → Typed Γ H a s) : ∀ x s, opdOf Γ av x = some s → HasS H s (a.eval x) := by
  intro x s hx
  cases x with
  | tmp t =>
    simp only [opdOf] at hx
    split at hx
    · rename_i hav; exact (h t hav).eval hx
    · cases hx
  | const v =>
    simp only [opdOf, Option.map_eq_some_iff] at hx
    obtain ⟨s1, h1, rfl⟩ := hx
    exact const1_has h1
  | global g => simp [opdOf] at hx
  | func f => simp [opdOf] at hx
theorem opAt_sound {listed : Nat → Prop} {H : Hp} {a : Act} {w : World} {o : Oper} {r : Option Sh} (hsig : SigOK P Gw sig) (hGw : Gw w) (hr : RI Γ N D base w0 ops listed H a w) (hdep : ∀ e ∈ deps o, listed e) (hgd : ∀ g b, o.guard = some (g, b) → yielded ops a.tmps g = some b) (h : opTyAt P sig Γ ops D o = some r) : OK1 P base w0 H o a w r := by
  have hopd := opd_has (av := avail ops D o) (fun s hs => avail_typed hr hdep hgd hs)
  unfold opTyAt at h
  split at h
  · rename_i c x y ho
    split at h
    · rename_i s t hc hx hy
      split at h
      · rename_i hst
        simp at h
        subst h
        obtain rfl := Sh.is_eq hst
        obtain ⟨b, hb⟩ := hopd (.tmp c) _ hc
        cases b
        · exact OK1.same (v := a.eval y) (by simp [execOp, ho, hb, asBool]) hr.wt hr.gr (opd_has (fun s hs => availIf_typed hr hdep hgd hb hs) y _ hy)
        · exact OK1.same (v := a.eval x) (by simp [execOp, ho, hb, asBool]) hr.wt hr.gr (opd_has (fun s hs => availIf_typed hr hdep hgd hb hs) x _ hx)
      · cases h
    · cases h
  · exact op_sound hsig h hopd hr.wt hr.gr hGw
end
end Go.Proofs.Qxb6500680aGreatDoor
