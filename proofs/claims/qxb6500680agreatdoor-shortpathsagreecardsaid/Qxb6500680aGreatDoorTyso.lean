import Derived.Test.Qxb6500680aGreatDoorTyop
namespace Go.Proofs.Qxb6500680aGreatDoor
open Go.RowKit Go.BigFrame
set_option linter.unusedSimpArgs false
variable {P : Program}
/-- A function's shapes. -/
structure Sg where
  f : FuncId
  args : List Sh1
  res : Sh
/-- A call of it goes well. -/
def CallOK (P : Program) (Gw : World → Prop) (g : Sg) : Prop := ∀ (args : Array Value), HasT g.args args.toList → ∀ w, Gw w →
  ((callFunc g.f args).run P w = .ok (.enter g.f args) w ∧ Calls P g.f args w fun e w' => ∃ v, e = .returned v ∧ (∀ H, HasS H g.res v) ∧ ∃ x, w' = ext w x) ∨ (∃ v, (callFunc g.f args).run P w = .ok (.value v) w ∧ ∀ H, HasS H g.res v)
/-- What is known: functions and package-level variables. -/
structure Ev where
  fs : List Sg
  gl : List (Nat × List Ce)
def GlOK (p : Nat × List Ce) (w : World) : Prop := ∃ arr t, w.heap[p.1]? = some (.cells arr t) ∧ HasL p.2 arr.toList
def SigOK (P : Program) (Gw : World → Prop) (sig : Ev) : Prop := (∀ g ∈ sig.fs, CallOK P Gw g) ∧ ∀ p ∈ sig.gl, ∀ w, Gw w → GlOK p w
def findGl : List (Nat × List Ce) → Nat → Option (List Ce)
  | [], _ => none
  | p :: r, g => if p.1 = g then some p.2 else findGl r g
theorem findGl_mem : ∀ {gl : List (Nat × List Ce)} {g : Nat} {L : List Ce}, findGl gl g = some L → (g, L) ∈ gl
  | [], g, L, h => by simp [findGl] at h
  | p :: r, g, L, h => by
    simp only [findGl] at h
    split at h
    · rename_i e; simp at h; subst h; subst e; simp
    · simp [findGl_mem h]
def findSg : List Sg → FuncId → Option Sg
  | [], _ => none
  | g :: r, f => if g.f = f then some g else findSg r f
theorem findSg_mem : ∀ {sig : List Sg} {f : FuncId} {g : Sg}, findSg sig f = some g → g ∈ sig ∧ g.f = f
  | [], f, g, h => by simp [findSg] at h
  | g' :: r, f, g, h => by
    simp only [findSg] at h
    split at h
    · simp at h; subst h; exact ⟨by simp, by assumption⟩
    · obtain ⟨h1, h2⟩ := findSg_mem h; exact ⟨by simp [h1], h2⟩
def argsTy (opd : Operand → Option Sh) : List Operand → List Sh1 → Bool
  | [], [] => true
  | x :: xs, s :: ss => (match opd x with | some (.one t) => t.is s | _ => false) && argsTy opd xs ss
  | _, _ => false
def isCmp : BinOp → Bool
  | .eql | .neq | .lss | .leq | .gtr | .geq => true
  | _ => false
def isAr : BinOp → Bool
  | .add | .sub | .mul | .and | .or | .xor | .andNot => true
  | _ => false
def isSft : BinOp → Bool
  | .shl | .shr => true
  | _ => false
def nzConst : Operand → Bool
  | .const (.int _ n) => decide (n ≠ 0)
  | _ => false
def isQr : BinOp → Bool
  | .quo | .rem => true
  | _ => false
def partsTy (P : Program) (opd : Operand → Option Sh) (fs : Array Field) (Z : List Ce) : List (Nat × Operand) → Bool
  | [] => true
  | (i, x) :: r => (match fs[i]?, opd x with
      | some f, some (.one s) => (szT P f.type == some s.cells.length) && sameL s.cells ((Z.drop f.offset).take s.cells.length) && decide (f.offset + s.cells.length ≤ Z.length)
      | _, _ => false) && partsTy P opd fs Z r
/-- The shape of what an operation yields. -/
def opTy (P : Program) (sig : Ev) (opd : Operand → Option Sh) (op : Op) : Option (Option Sh) :=
  match op with
  | .move x => (opd x).map some
  | .assign x => (opd x).map some
  | .pick c x y => match opd c, opd x, opd y with
    | some (.one (.cell .bool)), some s, some t => if s.is t then some (some s) else none
    | _, _, _ => none
  | .alloc t => (zeroT P t).map fun L => some (.ptr L)
  | .box _ x => match opd x with
    | some (.one s) => some (some (.ptr s.cells))
    | _ => none
  | .load t x => match (match x with | .global g => (findGl sig.gl g).map Sh.ptr | _ => opd x), isAggT P t, szT P t with
    | some (.ptr cs), some true, some n => if n ≤ cs.length then some (some (.one (.agg (cs.take n)))) else none
    | some (.ptr (c :: _)), some false, _ => some (some (.one (.cell c)))
    | _, _, _ => none
  | .store t x y => match opd x, opd y, szT P t with
    | some (.ptr cs), some (.one s), some n => if s.cells.length = n && sameL s.cells (cs.take n) then some none else none
    | _, _, _ => none
  | .fieldAddr s x f => match P.underlying s, opd x with
    | some (.struct fs), some (.ptr cs) => match fs[f]? with
      | some fd => match szT P fd.type with
        | some (_ + 1) => some (some (.ptr (cs.drop fd.offset)))
        | _ => none
      | none => none
    | _, _ => none
  | .binOp op t x y _ => match opd x, opd y with
    | some (.one (.cell (.int k))), some (.one (.cell (.int k'))) =>
      if isSft op then (if k'.signed then none else some (some (.one (.cell (.int k)))))
      else if k = k' then (if isAr op then some (some (.one (.cell (.int k)))) else if isCmp op then some (some (.one (.cell .bool))) else if isQr op && nzConst y then some (some (.one (.cell (.int k)))) else none) else none
    | some (.one (.cell .bool)), some (.one (.cell .bool)) => match P.underlying t, op with
      | some .bool, .eql => some (some (.one (.cell .bool)))
      | some .bool, .neq => some (some (.one (.cell .bool)))
      | _, _ => none
    | _, _ => none
  | .unOp op _ x => match op, opd x with
    | .neg, some (.one (.cell (.int k))) => some (some (.one (.cell (.int k))))
    | .xor, some (.one (.cell (.int k))) => some (some (.one (.cell (.int k))))
    | .not, some (.one (.cell .bool)) => some (some (.one (.cell .bool)))
    | _, _ => none
  | .convert src dst x => match P.underlying src, P.underlying dst, opd x with
    | some _, some (.int k), some (.one (.cell (.int _))) => some (some (.one (.cell (.int k))))
    | _, _, _ => none
  | .build t parts => match P.underlying t, zeroT P t with
    | some (.struct fs), some Z => if fs.toList.all (fun f => (szT P f.type).isSome) && partsTy P opd fs Z parts.toList then some (some (.one (.agg Z))) else none
    | _, _ => none
  | .extract x i => match opd x with
    | some (.tup ss) => (ss[i]?).map fun s => some (.one s)
    | _ => none
  | .field t x f => match P.underlying t, opd x with
    | some (.struct fs), some (.one (.agg cs)) => match fs[f]? with
      | some fd => match isAggT P fd.type with
        | some false => (cs[fd.offset]?).map fun c => some (.one (.cell c))
        | _ => none
      | none => none
    | _, _ => none
  | .call c => match c.callee with
    | .value (.func f) => match findSg sig.fs f with
      | some g => if argsTy opd c.args.toList g.args then some (some g.res) else none
      | none => none
    | _ => none
  | _ => none
section
variable {sig : Ev} {opd : Operand → Option Sh} {base : Nat} {w0 w : World} {H : Hp} {o : Oper} {a : Act} {Gw : World → Prop}
/-- The operation goes well, and yields what r says. -/
def OK1 (P : Program) (base : Nat) (w0 : World) (H : Hp) (o : Oper) (a : Act) (w : World) (r : Option Sh) : Prop :=
  ∀ (K : Act → World → Prop) (Q : Exit → Act → World → Prop), (∀ H' w' v, H.le H' → WT base H' w' → Gr base w0 w' → (∀ s, r = some s → HasS H' s v) → K (a.put o.dst v) w') → o.wp P a w K Q
theorem OK1.val {r : Option Sh} {v : Value} {w' : World} {H' : Hp} (h : (execOp a.eval o).run P w = .ok (.value v) w') (hl : H.le H') (hw : WT base H' w') (hg : Gr base w0 w') (hr : ∀ s, r = some s → HasS H' s v) : OK1 P base w0 H o a w r := fun K Q hK => by
  unfold Oper.wp
  rw [h]
  exact hK H' w' v hl hw hg hr
theorem OK1.same {s : Sh} {v : Value} (h : (execOp a.eval o).run P w = .ok (.value v) w) (hw : WT base H w) (hg : Gr base w0 w) (hr : HasS H s v) : OK1 P base w0 H o a w (some s) :=
  OK1.val h (Hp.le_refl H) hw hg fun t e => by simp at e; subst e; exact hr
theorem OK1.skip {w' : World} (h : (execOp a.eval o).run P w = .ok .skip w') (hw : WT base H w') (hg : Gr base w0 w') : OK1 P base w0 H o a w none := fun K Q hK => by
  unfold Oper.wp
  rw [h]
  exact hK H w' undef (Hp.le_refl H) hw hg (by simp)
theorem argsTy_has (hopd : ∀ x s, opd x = some s → HasS H s (a.eval x)) : ∀ {xs : List Operand} {ss : List Sh1}, argsTy opd xs ss = true → HasT ss (xs.map a.eval)
  | [], [], _ => trivial
  | x :: xs, s :: ss, h => by
    simp only [argsTy, Bool.and_eq_true] at h
    refine ⟨?_, argsTy_has hopd h.2⟩
    have h1 := h.1
    split at h1
    · rename_i t ht
      rw [← Sh1.is_eq h1]
      exact hopd x _ ht
    · cases h1
  | [], _ :: _, h => by simp [argsTy] at h
  | _ :: _, [], h => by simp [argsTy] at h
theorem shr_in {k : IntKind} {n : Int} (h : InR k n) (m : Nat) : InR k (n.fdiv (2 ^ m)) := by
  have hp : (0 : Int) < 2 ^ m := Int.pow_pos (by decide)
  obtain ⟨h1, h2⟩ := h
  have hmin : k.min ≤ 0 := by cases k <;> decide
  have hmax : 0 ≤ k.max := by cases k <;> decide
  rw [Int.fdiv_eq_ediv_of_nonneg _ (Int.le_of_lt hp)]
  refine ⟨?_, ?_⟩
  · rw [Int.le_ediv_iff_mul_le hp]
    by_cases hn : 0 ≤ n
    · have : k.min * 2 ^ m ≤ 0 := Int.mul_nonpos_of_nonpos_of_nonneg hmin (Int.le_of_lt hp)
      omega
    · have h3 : k.min * 2 ^ m ≤ k.min * 1 := Int.mul_le_mul_of_nonpos_left hmin (by omega)
      omega
  · apply Int.le_of_lt_add_one
    rw [Int.ediv_lt_iff_lt_mul hp]
    have h3 : (k.max + 1) * 1 ≤ (k.max + 1) * 2 ^ m := Int.mul_le_mul_of_nonneg_left (by omega) (by omega)
    omega
theorem rem_in {k : IntKind} {n : Int} (h : InR k n) (m : Int) : InR k (n.tmod m) := by
  have hmin : k.min ≤ 0 := by cases k <;> decide
  have hmax : 0 ≤ k.max := by cases k <;> decide
  obtain ⟨h1, h2⟩ := h
  have hn := Int.natAbs_tmod n m
  have hle : n.natAbs % m.natAbs ≤ n.natAbs := Nat.mod_le _ _
  by_cases h0 : 0 ≤ n
  · have h3 := Int.tmod_nonneg m h0
    exact ⟨by omega, by omega⟩
  · have h3 : n.tmod m ≤ 0 := by
      have h4 : 0 ≤ (-n).tmod m := Int.tmod_nonneg m (by omega)
      rw [Int.neg_tmod] at h4
      omega
    exact ⟨by omega, by omega⟩
end
end Go.Proofs.Qxb6500680aGreatDoor
