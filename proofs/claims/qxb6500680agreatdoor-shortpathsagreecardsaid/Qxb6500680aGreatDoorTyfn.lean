import Derived.Test.Qxb6500680aGreatDoorTycd
namespace Go.Proofs.Qxb6500680aGreatDoor
open Go.RowKit Go.BigFrame
set_option linter.unusedSimpArgs false
variable {P : Program}
/-- Shapes of the slots, guessed in the text's order. -/
def inferOps (P : Program) (sig : Ev) : List Oper → List (Option Sh) → List (Option Sh)
  | [], Γ => Γ
  | o :: r, Γ => inferOps P sig r (match opTy P sig (opdOf Γ fun _ => true) o.op, o.dst with
    | some (some s), some d => Γ.set d (some s)
    | _, _ => Γ)
def inferC (P : Program) (sig : Ev) : Code → List (Option Sh) → List (Option Sh)
  | .region _ ops _, Γ => inferOps P sig ops.toList Γ
  | .seq x y, Γ => inferC P sig y (inferC P sig x Γ)
  | .cond _ x y, Γ => inferC P sig y (inferC P sig x Γ)
  | .block _ x, Γ => inferC P sig x Γ
  | _, Γ => Γ
def gammaOf (P : Program) (sig : Ev) (g : Sg) (N : Nat) (c : Code) : List (Option Sh) :=
  inferC P sig c (g.args.map (fun s => some (.one s)) ++ List.replicate (N - g.args.length) none)
def argsIn (Γ : List (Option Sh)) : List Sh1 → Nat → Bool
  | [], _ => true
  | s :: ss, i => (match ty Γ i with | some (.one t) => t.is s | _ => false) && argsIn Γ ss (i + 1)
def bodyOK (P : Program) (sig : Ev) (Γ : List (Option Sh)) (g : Sg) (N : Nat) (rs : List ResultVar) (c : Code) : Bool :=
  argsIn Γ g.args 0 && (match cd P sig Γ N rs g.res c (2 ^ g.args.length - 1) with
    | some (none, []) => true
    | some (some D, []) => retOK P Γ rs g.res D
    | _ => false)
def fnOK (P : Program) (sig : Ev) (g : Sg) : Bool :=
  match P.funcs[g.f]? with
  | some fn => !(fn.name == "runtime.NumGoroutine") && decide (g.args.length ≤ fn.ntmps) && (match fn.body with
    | some c => bodyOK P sig (gammaOf P sig g fn.ntmps c) g fn.ntmps fn.results.toList c
    | none => false)
  | none => false
section
variable {sig : Ev} {Gw : World → Prop}
theorem argsIn_typed {Γ : List (Option Sh)} {H : Hp} {a : Act} : ∀ {ss : List Sh1} {vs : List Value} {i : Nat}, argsIn Γ ss i = true → HasT ss vs → (∀ j v, vs[j]? = some v → a.tmps[i + j]? = some v) → ∀ j, j < ss.length → Typed Γ H a (i + j)
  | [], _, _, _, _, _, j, hj => by simp at hj
  | s :: ss, [], _, _, h, _, _, _ => by cases h
  | s :: ss, v :: vs, i, h, ht, hv, 0, _ => by
    simp only [argsIn, Bool.and_eq_true] at h
    have h1 := h.1
    split at h1
    · rename_i t hty
      obtain rfl := Sh1.is_eq h1
      exact ⟨_, v, hty, hv 0 v rfl, ht.1⟩
    · cases h1
  | s :: ss, v :: vs, i, h, ht, hv, j + 1, hj => by
    simp only [argsIn, Bool.and_eq_true] at h
    have := argsIn_typed (i := i + 1) (a := a) (H := H) h.2 ht.2 (fun k u hk => by
      have := hv (k + 1) u (by simpa using hk)
      rwa [show i + (k + 1) = i + 1 + k by omega] at this) j (by simpa using hj)
    rwa [show i + 1 + j = i + (j + 1) by omega] at this
theorem res_run {Γ : List (Option Sh)} {D base : Nat} {H : Hp} {a : Act} {w : World} (hw : WT base H w) (ht : ∀ s, D.testBit s = true → Typed Γ H a s) : ∀ {rs : List ResultVar} {ss : List Sh1}, resOf P Γ D rs = some ss →
    ∃ vs, (rs.mapM (fun | .tmp t => pure (a.tmps.getD t undef) | .cell s t => do loadVar t (← asAddr (a.tmps.getD s undef)) : ResultVar → Sem Value)).run P w = .ok vs w ∧ HasT ss vs
  | [], ss, h => by simp [resOf] at h; subst h; exact ⟨[], by simp, trivial⟩
  | r :: rs, ss, h => by
    simp only [resOf] at h
    split at h
    · rename_i s ss' h1 h2
      simp at h
      subst h
      obtain ⟨vs, hr, hv⟩ := res_run hw ht h2
      have hone : ∃ v, ((fun | .tmp t => pure (a.tmps.getD t undef) | .cell s t => do loadVar t (← asAddr (a.tmps.getD s undef)) : ResultVar → Sem Value) r).run P w = .ok v w ∧ Has1 s v := by
        cases r with
        | tmp t =>
          simp only at h1
          split at h1
          · rename_i hD
            split at h1
            · rename_i s' hs'
              simp at h1
              subst h1
              exact ⟨_, rfl, (ht t hD).eval hs'⟩
            · cases h1
          · cases h1
        | cell x t =>
          simp only at h1
          split at h1
          · rename_i hD
            split at h1
            · rename_i cs n hx ha hn
              split at h1
              · rename_i hl
                simp at h1
                subst h1
                obtain ⟨b, of, L, e, hb, rfl⟩ := (ht x hD).eval hx
                obtain ⟨v, hrv, hv1⟩ := run_load_agg (P := P) ha hn hw hb hl
                refine ⟨v, ?_, hv1⟩
                have e' : a.tmps.getD x undef = .pointer (some ⟨b, of, none⟩) := e
                simpa [Instr.loadAt, Instr.sureAddr, e', asAddr] using hrv
              · cases h1
            · rename_i c cs hx ha
              simp at h1
              subst h1
              obtain ⟨b, of, L, e, hb, hL⟩ := (ht x hD).eval hx
              obtain ⟨v, hrv, hv1⟩ := run_load_one (P := P) ha hw hb hL.symm
              refine ⟨v, ?_, hv1⟩
              have e' : a.tmps.getD x undef = .pointer (some ⟨b, of, none⟩) := e
              simpa [Instr.loadAt, Instr.sureAddr, e', asAddr] using hrv
            · cases h1
          · cases h1
      obtain ⟨v, hv1, hv2⟩ := hone
      refine ⟨v :: vs, ?_, hv2, hv⟩
      simp only [List.mapM_cons, Sem.run_bind, hv1, Result.andThen_ok, hr, Sem.run_pure]
    · cases h
theorem hasT_len : ∀ {ss : List Sh1} {vs : List Value}, HasT ss vs → vs.length = ss.length
  | [], [], _ => rfl
  | _ :: _, _ :: _, h => by simp [hasT_len h.2]
  | [], _ :: _, h => by cases h
  | _ :: _, [], h => by cases h
theorem ret_sound {Γ : List (Option Sh)} {N base : Nat} {w0 : World} {D : Nat} {a : Act} {w : World} {fn : Func} {res : Sh} (h : retOK P Γ fn.results.toList res D = true) (hi : Inv Γ N base w0 D a w) : ∃ v, (results fn a.tmps).run P w = .ok v w ∧ ∀ H, HasS H res v := by
  obtain ⟨H, h1, h2, h3, h4, h5⟩ := hi
  simp only [retOK] at h
  split at h
  · rename_i ss hss
    obtain rfl := Sh.is_eq h
    obtain ⟨vs, hr, hv⟩ := res_run (P := P) h1 h5 hss
    have hl := hasT_len hv
    refine ⟨if h : vs.toArray.size = 1 then vs.toArray[0] else .tuple vs.toArray, ?_, fun H' => ?_⟩
    · unfold results
      rw [Array.mapM_eq_mapM_toList]
      simp only [map_eq_pure_bind, Sem.run_bind, Sem.run_pure, Result.andThen_ok]
      erw [hr]
      rfl
    · match ss, vs, hv, hl with
      | [s], [v], hv, _ => exact hv.1
      | [], [], _, _ => exact ⟨#[], by simp, trivial⟩
      | s :: s' :: ss, v :: v' :: vs, hv, _ => exact ⟨(v :: v' :: vs).toArray, by simp, hv⟩
  · cases h
theorem fn_sound {g : Sg} (hm : P.follows .mixedOrders = true) (hsig : SigOK P Gw sig) (hGw : ∀ w w', Gw w → Gr w.heap.size w w' → Gw w') (h : fnOK P sig g = true) : CallOK P Gw g := by
  intro args hargs w hG
  unfold fnOK at h
  split at h
  · rename_i fn hf
    simp only [Bool.and_eq_true, decide_eq_true_eq] at h
    obtain ⟨⟨hname, hN⟩, hb⟩ := h
    split at hb
    · rename_i c hc
      refine .inl ⟨?_, ?_⟩
      · have hname' : ¬ fn.name = "runtime.NumGoroutine" := by simpa using hname
        simp [callFunc, hf, hname', hc]
      · refine calls_of_wp hf hc ?_
        generalize hΓ : gammaOf P sig g fn.ntmps c = Γ at hb
        have hal : args.size = g.args.length := by have := hasT_len hargs; simpa using this
        simp only [bodyOK, Bool.and_eq_true] at hb
        have hinv : Inv Γ fn.ntmps w.heap.size w (2 ^ g.args.length - 1) { tmps := args ++ Array.replicate (fn.ntmps - args.size) undef, defers := [] } w := by
          refine ⟨⟨fun _ => none, fun b L e => (by cases e), Gr.refl w, (by simp; omega), rfl, fun s hs => ?_⟩⟩
          rw [Nat.testBit_two_pow_sub_one] at hs
          simp at hs
          have := argsIn_typed (Γ := Γ) (H := fun _ => none) (a := { tmps := args ++ Array.replicate (fn.ntmps - args.size) undef, defers := [] }) (i := 0) hb.1 hargs (fun j v hj => by
            have hj' : args[j]? = some v := by simpa using hj
            have hlt := (Array.getElem?_eq_some_iff.1 hj').1
            simp only [Nat.zero_add]
            rw [Array.getElem?_append_left hlt]
            exact hj') s hs
          simpa using this
        have hret : ∀ (e : Exit) D' a' w', (e = .normal ∨ e = .ret) → retOK P Γ fn.results.toList g.res D' = true → Inv Γ fn.ntmps w.heap.size w D' a' w' → bodyPost P fn (fun e w' => ∃ v, e = .returned v ∧ (∀ H, HasS H g.res v) ∧ ∃ x, w' = ext w x) e a' w' := fun e D' a' w' he hr hI => by
          obtain ⟨v, hv1, hv2⟩ := ret_sound hr hI
          obtain ⟨H, _, h2, _, h4, _⟩ := hI
          rcases he with rfl | rfl
          · exact ⟨h4, v, hv1, v, rfl, hv2, h2.of⟩
          · exact ⟨h4, v, hv1, v, rfl, hv2, h2.of⟩
        have hb2 := hb.2
        split at hb2
        · rename_i hcd
          exact code_sound hm hsig (fun w' hg => hGw w w' hG hg) c _ _ _ _ w _ hcd hinv (fun D' a' w' hd => by cases hd) (fun id D' a' w' hm' => by cases hm') (fun D' a' w' hr hI => hret .ret D' a' w' (.inr rfl) hr hI)
        · rename_i D hcd
          exact code_sound hm hsig (fun w' hg => hGw w w' hG hg) c _ _ _ _ w _ hcd hinv (fun D' a' w' hd hI => by simp at hd; subst hd; exact hret .normal D a' w' (.inl rfl) hb2 hI) (fun id D' a' w' hm' => by cases hm') (fun D' a' w' hr hI => hret .ret D' a' w' (.inr rfl) hr hI)
        · cases hb2
    · cases hb
  · cases h
def chkAll (P : Program) : Ev → List Sg → Bool
  | _, [] => true
  | known, g :: r => fnOK P known g && chkAll P ⟨g :: known.fs, known.gl⟩ r
theorem chkAll_sound (hm : P.follows .mixedOrders = true) (hGw : ∀ w w', Gw w → Gr w.heap.size w w' → Gw w') : ∀ {l : List Sg} {known : Ev}, SigOK P Gw known → chkAll P known l = true → SigOK P Gw ⟨l.reverse ++ known.fs, known.gl⟩
  | [], known, hk, _ => by simpa using hk
  | g :: r, known, hk, h => by
    simp only [chkAll, Bool.and_eq_true] at h
    have h1 := chkAll_sound hm hGw (l := r) (known := ⟨g :: known.fs, known.gl⟩) ⟨fun x hx => by
      rcases List.mem_cons.1 hx with rfl | hx
      · exact fn_sound hm hk hGw h.1
      · exact hk.1 x hx, hk.2⟩ h.2
    simpa using h1
end
end Go.Proofs.Qxb6500680aGreatDoor
