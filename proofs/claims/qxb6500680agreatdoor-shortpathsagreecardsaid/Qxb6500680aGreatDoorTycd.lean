import Derived.Test.Qxb6500680aGreatDoorTyrn
namespace Go.Proofs.Qxb6500680aGreatDoor
open Go.RowKit Go.BigFrame
set_option linter.unusedSimpArgs false
variable {P : Program}
def join : Option Nat → Option Nat → Option Nat
  | none, d => d
  | d, none => d
  | some x, some y => some (x &&& y)
def joinAll (id : Nat) (es : List (Nat × Nat)) (d : Option Nat) : Option Nat := es.foldl (fun d e => if e.1 = id then join d (some e.2) else d) d
/-- What the results are, at a return. -/
def resOf (P : Program) (Γ : List (Option Sh)) (D : Nat) : List ResultVar → Option (List Sh1)
  | [] => some []
  | r :: rs => match (match r with
      | .tmp t => if D.testBit t then (match ty Γ t with | some (.one s) => some s | _ => none) else none
      | .cell s t => if D.testBit s then (match ty Γ s, isAggT P t, szT P t with
          | some (.ptr cs), some true, some n => if n ≤ cs.length then some (.agg (cs.take n)) else none
          | some (.ptr (c :: _)), some false, _ => some (.cell c)
          | _, _, _ => none) else none), resOf P Γ D rs with
    | some s, some ss => some (s :: ss)
    | _, _ => none
def shOf : List Sh1 → Sh
  | [s] => .one s
  | ss => .tup ss
def retOK (P : Program) (Γ : List (Option Sh)) (rs : List ResultVar) (res : Sh) (D : Nat) : Bool :=
  match resOf P Γ D rs with
  | some ss => (shOf ss).is res
  | none => false
def cd (P : Program) (sig : Ev) (Γ : List (Option Sh)) (N : Nat) (rs : List ResultVar) (res : Sh) : Code → Nat → Option (Option Nat × List (Nat × Nat))
  | .skip, D => some (some D, [])
  | .region _ ops _, D => if regOK P sig Γ N ops D then some (some (regD ops.toList D), []) else none
  | .seq x y, D => match cd P sig Γ N rs res x D with
    | some (some D1, e1) => match cd P sig Γ N rs res y D1 with
      | some (d2, e2) => some (d2, e1 ++ e2)
      | none => none
    | some (none, e1) => some (none, e1)
    | none => none
  | .cond c x y, D => match opdOf Γ (fun s => D.testBit s) c with
    | some (.one (.cell .bool)) => match cd P sig Γ N rs res x D, cd P sig Γ N rs res y D with
      | some (d1, e1), some (d2, e2) => some (join d1 d2, e1 ++ e2)
      | _, _ => none
    | _ => none
  | .block id x, D => match cd P sig Γ N rs res x D with
    | some (d, es) => some (joinAll id es d, es.filter fun e => !decide (e.1 = id))
    | none => none
  | .exit id, D => some (none, [(id, D)])
  | .ret, D => if retOK P Γ rs res D then some (none, []) else none
  | _, _ => none
section
variable {sig : Ev} {Γ : List (Option Sh)} {N base : Nat} {w0 : World} {Gw : World → Prop} {rs : List ResultVar} {res : Sh}
structure Inv (Γ : List (Option Sh)) (N base : Nat) (w0 : World) (D : Nat) (a : Act) (w : World) : Prop where
  ex : ∃ H, WT base H w ∧ Gr base w0 w ∧ a.tmps.size = N ∧ a.defers = [] ∧ ∀ s, D.testBit s = true → Typed Γ H a s
theorem Inv.mono {D D' : Nat} {a : Act} {w : World} (h : Inv Γ N base w0 D a w) (hd : ∀ s, D'.testBit s = true → D.testBit s = true) : Inv Γ N base w0 D' a w := by
  obtain ⟨H, h1, h2, h3, h4, h5⟩ := h
  exact ⟨H, h1, h2, h3, h4, fun s hs => h5 s (hd s hs)⟩
def LeD (d : Nat) : Option Nat → Prop
  | none => False
  | some D => ∀ s, D.testBit s = true → d.testBit s = true
theorem join_left {d : Nat} {x y : Option Nat} (h : x = some d) : ∃ D, join x y = some D ∧ ∀ s, D.testBit s = true → d.testBit s = true := by
  subst h
  cases y with
  | none => exact ⟨d, rfl, fun _ h => h⟩
  | some e => exact ⟨_, rfl, fun s hs => by rw [Nat.testBit_and] at hs; simp at hs; exact hs.1⟩
theorem join_right {d : Nat} {x y : Option Nat} (h : y = some d) : ∃ D, join x y = some D ∧ ∀ s, D.testBit s = true → d.testBit s = true := by
  subst h
  cases x with
  | none => exact ⟨d, rfl, fun _ h => h⟩
  | some e => exact ⟨_, rfl, fun s hs => by rw [Nat.testBit_and] at hs; simp at hs; exact hs.2⟩
theorem joinAll_ge {id : Nat} : ∀ {es : List (Nat × Nat)} {d : Option Nat} {D : Nat}, d = some D → ∃ D', joinAll id es d = some D' ∧ ∀ s, D'.testBit s = true → D.testBit s = true
  | [], d, D, h => ⟨D, h, fun _ h => h⟩
  | e :: es, d, D, h => by
    simp only [joinAll, List.foldl_cons]
    split
    · obtain ⟨D1, h1, h2⟩ := join_left (y := some e.2) h
      obtain ⟨D2, h3, h4⟩ := joinAll_ge (id := id) (es := es) h1
      exact ⟨D2, h3, fun s hs => h2 s (h4 s hs)⟩
    · exact joinAll_ge h
theorem joinAll_mem {id : Nat} : ∀ {es : List (Nat × Nat)} {d : Option Nat} {D : Nat}, (id, D) ∈ es → ∃ D', joinAll id es d = some D' ∧ ∀ s, D'.testBit s = true → D.testBit s = true
  | [], _, _, h => by simp at h
  | e :: es, d, D, h => by
    simp only [joinAll, List.foldl_cons]
    rcases List.mem_cons.1 h with rfl | h
    · simp only [if_true]
      obtain ⟨D1, h1, h2⟩ := join_right (x := d) (y := some D) rfl
      obtain ⟨D2, h3, h4⟩ := joinAll_ge (id := id) (es := es) h1
      exact ⟨D2, h3, fun s hs => h2 s (h4 s hs)⟩
    · exact joinAll_mem h
theorem code_sound (hm : P.follows .mixedOrders = true) (hsig : SigOK P Gw sig) (hGw : ∀ w, Gr base w0 w → Gw w) :
    ∀ (c : Code) (D : Nat) (d : Option Nat) (es : List (Nat × Nat)) (a : Act) (w : World) (Q : Exit → Act → World → Prop), cd P sig Γ N rs res c D = some (d, es) → Inv Γ N base w0 D a w →
      (∀ D' a w, d = some D' → Inv Γ N base w0 D' a w → Q .normal a w) → (∀ id D' a w, (id, D') ∈ es → Inv Γ N base w0 D' a w → Q (.exit id) a w) → (∀ D' a w, retOK P Γ rs res D' = true → Inv Γ N base w0 D' a w → Q .ret a w) → c.wp P Q a w
  | .skip, D, d, es, a, w, Q, h, hi, hn, _, _ => by
    simp [cd] at h
    exact wp_skip (hn D a w h.1.symm hi)
  | .region id ops dr, D, d, es, a, w, Q, h, hi, hn, _, _ => by
    simp only [cd] at h
    split at h
    · rename_i hok
      simp at h
      obtain ⟨rfl, rfl⟩ := h
      obtain ⟨H, h1, h2, h3, h4, h5⟩ := hi
      have hQ : ∀ H a w, RI Γ N D base w0 ops (fun j => j < ops.size) H a w → Q .normal a w := fun H a w hr => hn _ a w rfl ⟨H, hr.wt, hr.gr, hr.sz, hr.df, regD_typed hr⟩
      cases dr with
      | false =>
        refine wp_region ?_
        rw [List.range_eq_range']
        exact ops_sound hsig hGw hok hQ ops.size 0 H a w (by omega) ⟨h1, h2, h3, h4, h5, fun j o d _ hl => by omega, fun j o _ hl => by omega⟩
      | true =>
        refine wp_region_any hm ?_
        refine any_sound hsig hGw hok hQ ops.size _ H a _ (by simp) ?_ ⟨h1.keep fun b _ => rfl, h2.drew, h3, h4, h5, fun j o d hj hl => ?_, fun j o hj hl => ?_⟩
        · refine Nat.le_trans (List.countP_le_length) (by simp)
        · simp [Array.getD] at hl
        · simp [Array.getD] at hl
    · cases h
  | .seq x y, D, d, es, a, w, Q, h, hi, hn, he, hr => by
    simp only [cd] at h
    split at h
    · rename_i D1 e1 hx
      split at h
      · rename_i d2 e2 hy
        simp at h
        obtain ⟨rfl, rfl⟩ := h
        refine wp_seq (code_sound hm hsig hGw x D _ _ a w _ hx hi (fun D' a w hd hI => ?_) (fun id D' a w hm' hI => he id D' a w (by simp [hm']) hI) hr)
        simp at hd
        subst hd
        exact code_sound hm hsig hGw y D1 _ _ a w Q hy hI hn (fun id D' a w hm' hI => he id D' a w (by simp [hm']) hI) hr
      · cases h
    · rename_i e1 hx
      simp at h
      obtain ⟨rfl, rfl⟩ := h
      exact wp_seq (code_sound hm hsig hGw x D _ _ a w _ hx hi (fun D' a w hd hI => by cases hd) he hr)
    · cases h
  | .cond c x y, D, d, es, a, w, Q, h, hi, hn, he, hr => by
    simp only [cd] at h
    split at h
    · rename_i hc
      split at h
      · rename_i d1 e1 d2 e2 hx hy
        simp at h
        obtain ⟨rfl, rfl⟩ := h
        obtain ⟨H, h1, h2, h3, h4, h5⟩ := hi
        obtain ⟨b, hb⟩ := opd_has (fun s hs => h5 s hs) c _ hc
        refine wp_cond_split hb (fun _ => ?_) (fun _ => ?_)
        · refine code_sound hm hsig hGw x D _ _ a w Q hx ⟨H, h1, h2, h3, h4, h5⟩ (fun D' a w hd hI => ?_) (fun id D' a w hm' hI => he id D' a w (by simp [hm']) hI) hr
          obtain ⟨D2, h6, h7⟩ := join_left (y := d2) hd
          exact hn D2 a w h6 (hI.mono h7)
        · refine code_sound hm hsig hGw y D _ _ a w Q hy ⟨H, h1, h2, h3, h4, h5⟩ (fun D' a w hd hI => ?_) (fun id D' a w hm' hI => he id D' a w (by simp [hm']) hI) hr
          obtain ⟨D2, h6, h7⟩ := join_right (x := d1) hd
          exact hn D2 a w h6 (hI.mono h7)
      · cases h
    · cases h
  | .block id x, D, d, es, a, w, Q, h, hi, hn, he, hr => by
    simp only [cd] at h
    split at h
    · rename_i d1 e1 hx
      simp at h
      obtain ⟨rfl, rfl⟩ := h
      refine wp_block (code_sound hm hsig hGw x D _ _ a w _ hx hi (fun D' a w hd hI => ?_) (fun id' D' a w hm' hI => ?_) hr)
      · obtain ⟨D2, h6, h7⟩ := joinAll_ge (id := id) (es := e1) hd
        exact hn D2 a w h6 (hI.mono h7)
      · simp only [Exit.inBlock]
        split
        · rename_i hid
          subst hid
          obtain ⟨D2, h6, h7⟩ := joinAll_mem (d := d1) hm'
          exact hn D2 a w h6 (hI.mono h7)
        · rename_i hid
          exact he id' D' a w (List.mem_filter.2 ⟨hm', by simp [hid]⟩) hI
    · cases h
  | .exit id, D, d, es, a, w, Q, h, hi, _, he, _ => by
    simp [cd] at h
    obtain ⟨rfl, rfl⟩ := h
    exact wp_exit (he id D a w (by simp) hi)
  | .ret, D, d, es, a, w, Q, h, hi, _, _, hr => by
    simp only [cd] at h
    split at h
    · exact wp_ret (hr D a w (by assumption) hi)
    · cases h
  | .loop _, _, _, _, _, _, _, h, _, _, _, _ => by simp [cd] at h
  | .rangeFunc .., _, _, _, _, _, _, h, _, _, _, _ => by simp [cd] at h
  | .label _, _, _, _, _, _, _, h, _, _, _, _ => by simp [cd] at h
  | .goto _, _, _, _, _, _, _, h, _, _, _, _ => by simp [cd] at h
end
end Go.Proofs.Qxb6500680aGreatDoor
