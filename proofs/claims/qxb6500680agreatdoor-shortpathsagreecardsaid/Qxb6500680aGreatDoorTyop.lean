import Derived.Test.Qxb6500680aGreatDoorTy
namespace Go.Proofs.Qxb6500680aGreatDoor
open Go.RowKit Go.BigFrame
set_option linter.unusedSimpArgs false
def constC : Value → Option Ce
  | .int k n => if k.min ≤ n ∧ n ≤ k.max then some (.int k) else none
  | .bool _ => some .bool
  | _ => none
theorem constC_has {v : Value} {c : Ce} (h : constC v = some c) : HasC c v := by
  cases v <;> simp [constC] at h
  · obtain ⟨h1, rfl⟩ := h; exact ⟨_, rfl⟩
  · obtain ⟨h1, rfl⟩ := h; exact ⟨_, rfl, h1⟩
def constL : List Value → Option (List Ce)
  | [] => some []
  | v :: vs => match constC v, constL vs with
    | some c, some cs => some (c :: cs)
    | _, _ => none
theorem constL_has : ∀ {l : List Value} {s : List Ce}, constL l = some s → HasL s l
  | [], s, h => by simp [constL] at h; subst h; trivial
  | v :: vs, s, h => by
    simp only [constL] at h
    split at h
    · rename_i c cs h1 h2
      simp at h
      subst h
      exact ⟨constC_has h1, constL_has h2⟩
    · cases h
def const1 : Value → Option Sh1
  | .agg arr => (constL arr.toList).map .agg
  | v => (constC v).map .cell
theorem const1_has {v : Value} {s : Sh1} (h : const1 v = some s) : Has1 s v := by
  cases v <;> simp [const1] at h
  case agg arr =>
    obtain ⟨cs, h1, rfl⟩ := h
    exact ⟨arr, rfl, constL_has h1⟩
  all_goals
    obtain ⟨c, h1, rfl⟩ := h
    exact constC_has h1
def isAggT (P : Program) (t : TypeId) : Option Bool :=
  match P.underlying t with
  | some (.struct _) => some true
  | some (.array _ _) => some true
  | some _ => some false
  | none => none
def szT (P : Program) (t : TypeId) : Option Nat := (P.info? t).map (·.size)
def zeroT (P : Program) (t : TypeId) : Option (List Ce) := ((P.info? t).bind (·.zero)).bind fun z => constL z.cells.toList
variable {P : Program}
theorem run_isAgg {t : TypeId} {b : Bool} (h : isAggT P t = some b) (w : World) : (isAgg t).run P w = .ok b w := by
  cases hu : P.underlying t with
  | none => simp [isAggT, hu] at h
  | some d => cases d <;> simp [isAggT, hu] at h <;> subst h <;> simp [isAgg, run_underlying hu]
theorem run_sizeOf {t : TypeId} {n : Nat} (h : szT P t = some n) (w : World) : (sizeOf t).run P w = .ok n w := by
  unfold szT at h
  cases hi : P.info? t with
  | none => simp [hi] at h
  | some i => simp [hi] at h; simp [sizeOf, typeInfo, hi, h]
theorem run_zero {t : TypeId} {L : List Ce} (h : zeroT P t = some L) (w : World) : ∃ z, (zeroValue t).run P w = .ok z w ∧ HasL L z.cells.toList := by
  unfold zeroT at h
  cases hi : P.info? t with
  | none => simp [hi] at h
  | some i =>
    cases hz : i.zero with
    | none => simp [hi, hz] at h
    | some z => simp [hi, hz] at h; exact ⟨z, by simp [zeroValue, typeInfo, hi, hz], constL_has h⟩
theorem wt_cell {base b o i : Nat} {H : Hp} {w : World} {L : List Ce} {c : Ce} (h : WT base H w) (hb : H b = some L) (hc : (L.drop o)[i]? = some c) : ∃ v, w.cell? ⟨b, o + i, none⟩ = some v ∧ HasC c v ∧ w.frozen? ⟨b, o + i, none⟩ = false := by
  obtain ⟨_, arr, t, h2, h3⟩ := h b L hb
  rw [List.getElem?_drop] at hc
  obtain ⟨v, hv, hcv⟩ := h3.get hc
  refine ⟨v, ?_, hcv, mark_of_cells h2 _⟩
  rw [cell_of_cells h2]
  simpa using hv
theorem run_load_one {t : TypeId} {base b o : Nat} {H : Hp} {w : World} {L : List Ce} {c : Ce} {cs : List Ce} (ha : isAggT P t = some false) (h : WT base H w) (hb : H b = some L) (hc : L.drop o = c :: cs) : ∃ v, (Instr.loadAt t (.pointer (some ⟨b, o, none⟩))).run P w = .ok v w ∧ HasC c v := by
  obtain ⟨v, h1, h2, _⟩ := wt_cell (i := 0) h hb (by rw [hc]; rfl)
  exact ⟨v, by simp [Instr.loadAt, Instr.sureAddr, loadVar, run_isAgg ha, show w.cell? ⟨b, o, none⟩ = some v from h1], h2⟩
theorem run_load_agg {t : TypeId} {base b o n : Nat} {H : Hp} {w : World} {L : List Ce} (ha : isAggT P t = some true) (hn : szT P t = some n) (h : WT base H w) (hb : H b = some L) (hl : n ≤ (L.drop o).length) : ∃ v, (Instr.loadAt t (.pointer (some ⟨b, o, none⟩))).run P w = .ok v w ∧ Has1 (.agg ((L.drop o).take n)) v := by
  obtain ⟨_, arr, ty, h2, h3⟩ := h b L hb
  have h4 := (h3.drop o).take n
  have h5 := h4.len
  have hlen : ((arr.toList.drop o).take n).length = n := by rw [h5, List.length_take]; omega
  have hr := run_loadCells_list (P := P) w ⟨b, o, none⟩ ((arr.toList.drop o).take n) (fun j v hv => by
    rw [Addr.add_lit, cell_of_cells h2]
    rw [List.getElem?_take] at hv
    split at hv
    · rw [List.getElem?_drop] at hv; simpa using hv
    · cases hv)
  rw [hlen] at hr
  exact ⟨.agg ((arr.toList.drop o).take n).toArray, by simp [Instr.loadAt, Instr.sureAddr, loadVar, run_isAgg ha, run_sizeOf hn, hr], _, rfl, by simpa using h4⟩
theorem WT.cells {base b : Nat} {H : Hp} {L : List Ce} : ∀ (vs : List Value) (cs : List Ce) (o : Nat) (w : World), WT base H w → H b = some L → HasL cs vs → (∀ i c, cs[i]? = some c → L[o + i]? = some c) → WT base H (w.setCells b o vs)
  | [], _, _, _, h, _, _, _ => h
  | v :: r, [], _, _, _, _, hl, _ => by cases hl
  | v :: r, c :: cs, o, w, h, hb, hl, hc => by
    have h1 := h.set hb (hc 0 c rfl) hl.1
    exact WT.cells r cs (o + 1) _ h1 hb hl.2 fun i d hi => by
      have := hc (i + 1) d (by simpa using hi)
      rwa [show o + (i + 1) = o + 1 + i by omega] at this
theorem Gr.cells {base b : Nat} {w0 : World} (hb : base ≤ b) : ∀ (vs : List Value) (o : Nat) (w : World), Gr base w0 w → Gr base w0 (w.setCells b o vs)
  | [], _, _, h => h
  | v :: r, o, _, h => Gr.cells hb r (o + 1) _ (h.setCell (p := ⟨b, o, none⟩) hb v)
theorem run_store_any {t : TypeId} {base b o n : Nat} {H : Hp} {w w0 : World} {L cs : List Ce} {v : Value} (hn : szT P t = some n) (h : WT base H w) (hg : Gr base w0 w) (hb : H b = some L) (hv : HasL cs v.cells.toList) (hl : cs.length = n) (hc : cs = (L.drop o).take n) : ∃ w', (Instr.storeAt t (.pointer (some ⟨b, o, none⟩)) v).run P w = .ok () w' ∧ WT base H w' ∧ Gr base w0 w' := by
  have hc' : ∀ i c, cs[i]? = some c → L[o + i]? = some c := fun i c hi => by
    rw [hc, List.getElem?_take] at hi
    split at hi
    · rwa [List.getElem?_drop] at hi
    · cases hi
  have hvl := hv.len
  have hst := run_storeCells_cells (P := P) b o v.cells.toList 0 w (fun j hj => by
      have hj2 : j < cs.length := by omega
      obtain ⟨u, h1, _, _⟩ := wt_cell (o := 0) (i := o + j) h hb (by simpa using hc' j _ (List.getElem?_eq_getElem hj2))
      simp at h1
      simp [h1]) (fun j hj => by
      have hj2 : j < cs.length := by omega
      obtain ⟨u, _, _, h1⟩ := wt_cell (o := 0) (i := o + j) h hb (by simpa using hc' j _ (List.getElem?_eq_getElem hj2))
      simpa using h1) hv.one
  simp only [Nat.add_zero] at hst
  have hsz : v.cells.size = n := by rw [← Array.length_toList, hvl, hl]
  refine ⟨_, ?_, WT.cells _ cs o w h hb hv hc', Gr.cells (h b L hb).1 _ o w hg⟩
  simp [Instr.storeAt, Instr.sureAddr, storeVar, run_sizeOf hn, hsz, hst]
end Go.Proofs.Qxb6500680aGreatDoor
