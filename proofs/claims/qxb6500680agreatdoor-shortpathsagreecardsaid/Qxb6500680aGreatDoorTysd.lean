import Derived.Test.Qxb6500680aGreatDoorTyso
namespace Go.Proofs.Qxb6500680aGreatDoor
open Go.RowKit Go.BigFrame
set_option linter.unusedSimpArgs false
variable {P : Program}
section
variable {sig : Ev} {opd : Operand → Option Sh} {base : Nat} {w0 w : World} {H : Hp} {o : Oper} {a : Act} {Gw : World → Prop}
theorem has_int {k : IntKind} (n : Int) : HasS H (.one (.cell (.int k))) (.int k (k.wrap n)) := ⟨_, rfl, wrap_within k n⟩
theorem has_bool (b : Bool) : HasS H (.one (.cell .bool)) (.bool b) := ⟨_, rfl⟩
theorem alloc_eq (w : World) (ob : Obj) : ({ w with heap := w.heap.push ob } : World) = w.alloc ob := rfl
theorem run_eq_bool {t : TypeId} (hu : P.underlying t = some .bool) (m n : Bool) (w : World) : (Op.equal t (.bool m) (.bool n)).run P w = .ok (m == n) w := by
  unfold Op.equal Op.maxDepth
  rw [show (10000 : Nat) = 9999 + 1 from rfl, Op.equalIn]
  simp only [Sem.run_bind, run_underlying hu, Result.andThen_ok]
  rfl
theorem sound_bin {op : BinOp} {t ty : TypeId} {x y : Operand} {r : Option Sh} (ho : o.op = .binOp op t x y ty) (h : opTy P sig opd o.op = some r) (hopd : ∀ x s, opd x = some s → HasS H s (a.eval x)) (hw : WT base H w) (hg : Gr base w0 w) : OK1 P base w0 H o a w r := by
  rw [ho] at h
  simp only [opTy] at h
  split at h
  · rename_i k k' hx hy
    obtain ⟨m, em, hm⟩ := hopd x _ hx
    obtain ⟨n, en, hn⟩ := hopd y _ hy
    split at h
    · rename_i hs
      split at h
      · cases h
      · rename_i hk'
        simp at h
        subst h
        have hn0 : ¬ n < 0 := by
          have h0 : k'.min = 0 := by simp at hk'; simp [IntKind.min, hk']
          have := hn.1
          omega
        cases op <;> simp [isSft] at hs
        · exact OK1.same (v := .int k (k.wrap (m * 2 ^ (min n.toNat k.bits)))) (by simp [execOp, ho, eqGuard, em, en, binOp, Op.shift, hn0]) hw hg (has_int _)
        · exact OK1.same (v := .int k (m.fdiv (2 ^ (min n.toNat k.bits)))) (by simp [execOp, ho, eqGuard, em, en, binOp, Op.shift, hn0]) hw hg ⟨_, rfl, shr_in hm _⟩
    · split at h
      · rename_i hs hk
        subst hk
        split at h
        · rename_i har
          simp at h
          subst h
          cases op <;> simp [isAr] at har
          · exact OK1.same (v := .int k (k.wrap (m + n))) (by simp [execOp, ho, eqGuard, em, en, binOp, Op.intArith]) hw hg (has_int _)
          · exact OK1.same (v := .int k (k.wrap (m - n))) (by simp [execOp, ho, eqGuard, em, en, binOp, Op.intArith]) hw hg (has_int _)
          · exact OK1.same (v := .int k (k.wrap (m * n))) (by simp [execOp, ho, eqGuard, em, en, binOp, Op.intArith]) hw hg (has_int _)
          · exact OK1.same (v := .int k (k.wrap (BitVec.ofInt k.bits m &&& BitVec.ofInt k.bits n).toNat)) (by simp [execOp, ho, eqGuard, em, en, binOp, Op.intBits]) hw hg (has_int _)
          · exact OK1.same (v := .int k (k.wrap (BitVec.ofInt k.bits m ||| BitVec.ofInt k.bits n).toNat)) (by simp [execOp, ho, eqGuard, em, en, binOp, Op.intBits]) hw hg (has_int _)
          · exact OK1.same (v := .int k (k.wrap (BitVec.ofInt k.bits m ^^^ BitVec.ofInt k.bits n).toNat)) (by simp [execOp, ho, eqGuard, em, en, binOp, Op.intBits]) hw hg (has_int _)
          · exact OK1.same (v := .int k (k.wrap (BitVec.ofInt k.bits m &&& ~~~BitVec.ofInt k.bits n).toNat)) (by simp [execOp, ho, eqGuard, em, en, binOp, Op.intBits]) hw hg (has_int _)
        · split at h
          · rename_i hcm
            simp at h
            subst h
            cases op <;> simp [isCmp] at hcm
            · exact OK1.same (v := .bool (m == n)) (by simp [execOp, ho, eqGuard, em, en, binOp, Op.intCmp]) hw hg (has_bool _)
            · exact OK1.same (v := .bool (m != n)) (by simp [execOp, ho, eqGuard, em, en, binOp, Op.intCmp]) hw hg (has_bool _)
            · exact OK1.same (v := .bool (m < n)) (by simp [execOp, ho, eqGuard, em, en, binOp, Op.intCmp]) hw hg (has_bool _)
            · exact OK1.same (v := .bool (m ≤ n)) (by simp [execOp, ho, eqGuard, em, en, binOp, Op.intCmp]) hw hg (has_bool _)
            · exact OK1.same (v := .bool (m > n)) (by simp [execOp, ho, eqGuard, em, en, binOp, Op.intCmp]) hw hg (has_bool _)
            · exact OK1.same (v := .bool (m ≥ n)) (by simp [execOp, ho, eqGuard, em, en, binOp, Op.intCmp]) hw hg (has_bool _)
          · split at h
            · rename_i hqr
              simp only [Bool.and_eq_true] at hqr
              simp at h
              subst h
              have hn0 : n ≠ 0 := by
                have hz := hqr.2
                unfold nzConst at hz
                split at hz
                · simp [Act.eval] at en
                  simp at hz
                  obtain ⟨_, rfl⟩ := en
                  exact hz
                · cases hz
              have hq := hqr.1
              cases op <;> simp [isQr] at hq
              · exact OK1.same (v := .int k (k.wrap (m.tdiv n))) (by simp [execOp, ho, eqGuard, em, en, binOp, Op.intDiv, hn0]) hw hg (has_int _)
              · exact OK1.same (v := .int k (m.tmod n)) (by simp [execOp, ho, eqGuard, em, en, binOp, Op.intDiv, hn0]) hw hg ⟨_, rfl, rem_in hm n⟩
            · cases h
      · cases h
  · rename_i hx hy
    obtain ⟨m, em⟩ := hopd x _ hx
    obtain ⟨n, en⟩ := hopd y _ hy
    split at h
    · rename_i hu
      simp at h
      subst h
      exact OK1.same (v := .bool (m == n)) (by simp [execOp, ho, eqGuard, em, en, binOp, run_eq_bool hu]) hw hg (has_bool _)
    · rename_i hu
      simp at h
      subst h
      exact OK1.same (v := .bool (!(m == n))) (by simp [execOp, ho, eqGuard, em, en, binOp, run_eq_bool hu]) hw hg (has_bool _)
    · cases h
  · cases h
theorem fill_has {place : Nat → Option (Nat × Nat)} {Z : List Ce} : ∀ {parts : List (Nat × Value)} {cells : Array Value}, HasL Z cells.toList → (∀ p ∈ parts, ∃ off cs, place p.1 = some (off, cs.length) ∧ HasL cs p.2.cells.toList ∧ cs = (Z.drop off).take cs.length ∧ off + cs.length ≤ Z.length) → ∃ out, Instr.fill place cells parts = some out ∧ HasL Z out.toList
  | [], cells, h, _ => ⟨cells, rfl, h⟩
  | (i, v) :: rest, cells, h, hp => by
    obtain ⟨off, cs, h1, h2, h3, h4⟩ := hp (i, v) (by simp)
    have hl := h2.len
    have hz := h.len
    have hsz : v.cells.size = cs.length := by rw [← hl]; simp
    have hcs : cells.size = Z.length := by rw [← hz]; simp
    have key : ∀ (l : List Value) (ds : List Ce) (k : Nat) (c : Array Value), HasL Z c.toList → HasL ds l → (∀ j d, ds[j]? = some d → Z[off + k + j]? = some d) → HasL Z ((l.zipIdx k).foldl (fun cs (p : Value × Nat) => cs.setIfInBounds (off + p.2) p.1) c).toList := by
      intro l
      induction l with
      | nil => intro ds k c hc _ _; exact hc
      | cons u l ih =>
        intro ds k c hc hd hj
        cases ds with
        | nil => cases hd
        | cons d ds =>
          rw [List.zipIdx_cons, List.foldl_cons]
          refine ih ds (k + 1) _ ?_ hd.2 (fun j e he => ?_)
          · rw [Array.toList_setIfInBounds]
            exact hc.set (by simpa using hj 0 d rfl) hd.1
          · have := hj (j + 1) e (by simpa using he)
            rwa [show off + k + (j + 1) = off + (k + 1) + j by omega] at this
    have hnew := key v.cells.toList cs 0 cells h h2 (fun j d hj => by
      rw [h3, List.getElem?_take] at hj
      split at hj
      · rw [List.getElem?_drop] at hj; simpa using hj
      · cases hj)
    obtain ⟨out, h5, h6⟩ := fill_has (parts := rest) (cells := v.cells.zipIdx.foldl (fun cs (c, j) => cs.setIfInBounds (off + j) c) cells) (by
      rw [← Array.foldl_toList, Array.toList_zipIdx]
      exact hnew) (fun p hp' => hp p (by simp [hp']))
    refine ⟨out, ?_, h6⟩
    simp only [Instr.fill, h1]
    rw [if_neg (by simp; omega)]
    exact h5
end
end Go.Proofs.Qxb6500680aGreatDoor
