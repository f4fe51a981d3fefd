import Derived.Test.Qxb6500680aGreatDoorText
namespace Go.Proofs.Qxb6500680aGreatDoor
open Go.RowKit Go.BigFrame
open Go.Lib (byteCells byteCells_append strCells_eq)
set_option linter.unusedSimpArgs false
attribute [local go_sem] ext_cell_if ext_frozen_if alloc_cell_if alloc_frozen_if ext_size ext_ext
/-- K bytes of p, the least first. -/
def leb (p : Nat) : Nat → List UInt8
  | 0 => []
  | K + 1 => UInt8.ofNat (p % 256) :: leb (p / 256) K
theorem leb_len (K : Nat) : ∀ p, (leb p K).length = K := by
  induction K with
  | zero => intro p; rfl
  | succ K ih => intro p; simp [leb, ih]
/-- What the first bytes spell. -/
def spell : List UInt8 → Nat
  | [] => 0
  | b :: r => b.toNat + 256 * spell r
theorem spell_leb (K : Nat) : ∀ p, p < 256 ^ K → spell (leb p K) = p := by
  induction K with
  | zero => intro p hp; simp at hp; subst hp; rfl
  | succ K ih =>
    intro p hp
    have h1 : p / 256 < 256 ^ K := by
      rw [Nat.pow_succ] at hp
      omega
    simp only [leb, spell, ih _ h1]
    simp
    omega
/-- Nothing turned but the row v, which is now v' (in its old block, or in a new one). -/
def To (w : World) (v : Value) (w' : World) (v' : Value) : Prop := w.grownBy w' v.ownBlock ∧ ∀ k, v'.ownBlock = some k → v.ownBlock = some k ∨ w.heap.size ≤ k
theorem To.refl (w : World) (v : Value) : To w v w v := ⟨grown_refl _ _, fun _ h => .inl h⟩
theorem To.trans {w w1 w2 : World} {v v1 v2 : Value} (h : To w v w1 v1) (h' : To w1 v1 w2 v2) : To w v w2 v2 := by
  refine ⟨⟨h'.1.os.trans h.1.os, h'.1.tape.trans h.1.tape, h'.1.output.trans h.1.output, Nat.le_trans h.1.size h'.1.size, fun k hk hne => ?_⟩, fun k hk => ?_⟩
  · refine (h'.1.block k (Nat.lt_of_lt_of_le hk h.1.size) fun e => ?_).trans (h.1.block k hk hne)
    rcases h.2 k e.symm with h1 | h1
    · exact hne h1.symm
    · omega
  · rcases h'.2 k hk with h1 | h1
    · exact h.2 k h1
    · have := h.1.size
      exact .inr (by omega)
theorem To.pre {w w1 w2 : World} {v v2 : Value} (h : w.grownBy w1 none) (h' : To w1 v w2 v2) : To w v w2 v2 := To.trans ⟨⟨h.os, h.tape, h.output, h.size, fun k hk _ => h.block k hk (by simp)⟩, fun _ h => .inl h⟩ h'
theorem To.gr {w w' : World} {v v' : Value} (h : To w v w' v') {B : Nat} {w0 : World} (hg : Gr B w0 w) (hv : ∀ k, v.ownBlock = some k → B ≤ k) : Gr B w0 w' := hg.grown h.1 hv
theorem Tryz.info27 : (Tryz.prog.info? 27).map (fun i => (i.zero, i.size, i.bytes)) = some (some (.int .u64 0), 1, 8) := by kernel_rfl
theorem Tryz.under46 : Tryz.prog.underlying 46 = some (.slice 27) := by kernel_rfl
def wordCells (l : List Nat) : List Value := l.map fun (p : Nat) => Value.int .u64 (p : Int)
theorem grow_own {w w' : World} {B e s n : Nat} {v : Value} {xs : List Value} (h : w.ownsRow B e s v n xs) (hg : w.grownBy w' none) : w'.ownsRow B e s v n xs := World.ownsRow.kept h hg (by cases hv : v.ownBlock <;> simp)
/-- One byte more. -/
theorem putB {ops : Array Oper} {rest : List Oper} {o : Oper} {a : Act} {w : World} {Q : Exit → Act → World → Prop} (hgd : o.guard = none) (s x : Operand)
    (ho : o.op = .call { callee := .builtin .append, args := #[s, x], argTypes := #[47, 47] })
    {B n : Nat} {l : List UInt8} {v : Value} (hT : w.ownsRow B 5 1 v n (byteCells l)) (hs : a.eval s = v) (ad : Addr) (m c : Nat) (l2 : List UInt8) (hx : a.eval x = .slice (some ad) m c) (hl : l2.length = m) (hc : ∀ j (hj : j < l2.length), w.cell? (ad.add j) = some (.int .u8 (l2[j].toNat : Int))) (hn : n + m ≤ 2000000) (hB : B ≤ w.heap.size)
    (h : ∀ v' w', w'.ownsRow B 5 1 v' (n + m) (byteCells (l ++ l2)) → To w v w' v' → wpList Tryz.prog ops Q rest (a.put o.dst v') w') : wpList Tryz.prog ops Q (o :: rest) a w := by
  obtain ⟨i0, hi, hz0, hz1, hz2⟩ := info_parts Tryz.info5
  refine wpList_append_at hgd s x 47 ho B 5 i0 (.int .u8 0) 1 1 Tryz.underlying47 hi hz0 hz1 hz2 rfl (by decide) v n (byteCells l) hs hT ad m c (byteCells l2) hx (by simp [byteCells, hl]) ?_ ?_ (by unfold maxLen; omega) (by omega) hB fun v' w' h2 h3 h4 => h v' w' (by rw [byteCells_append]; exact h2) ⟨h3, h4⟩
  · intro j u hj
    have hj' : j < l2.length := by
      have := (List.getElem?_eq_some_iff.1 hj).1
      simpa [byteCells] using this
    rw [hc j hj', ← hj]
    simp [byteCells, hj']
  · intro u hu
    simp [byteCells] at hu
    obtain ⟨b, _, rfl⟩ := hu
    rfl
/-- One word more. -/
theorem putW {ops : Array Oper} {rest : List Oper} {o : Oper} {a : Act} {w : World} {Q : Exit → Act → World → Prop} (hgd : o.guard = none) (s x : Operand)
    (ho : o.op = .call { callee := .builtin .append, args := #[s, x], argTypes := #[46, 46] })
    {B n : Nat} {l : List Nat} {v : Value} (hT : w.ownsRow B 27 1 v n (wordCells l)) (hs : a.eval s = v) (ad : Addr) (c p : Nat) (hx : a.eval x = .slice (some ad) 1 c) (hc : w.cell? ad = some (.int .u64 (p : Int))) (hn : n + 1 ≤ 2000000) (hB : B ≤ w.heap.size)
    (h : ∀ v' w', w'.ownsRow B 27 1 v' (n + 1) (wordCells (l ++ [p])) → To w v w' v' → wpList Tryz.prog ops Q rest (a.put o.dst v') w') : wpList Tryz.prog ops Q (o :: rest) a w := by
  obtain ⟨i0, hi, hz0, hz1, hz2⟩ := info_parts Tryz.info27
  refine wpList_append_at hgd s x 46 ho B 27 i0 (.int .u64 0) 1 8 Tryz.under46 hi hz0 hz1 hz2 rfl (by decide) v n (wordCells l) hs hT ad 1 c [.int .u64 (p : Int)] hx rfl ?_ ?_ (by unfold maxLen; omega) (by omega) hB fun v' w' h2 h3 h4 => h v' w' (by unfold wordCells at *; rw [List.map_append]; exact h2) ⟨h3, h4⟩
  · intro j u hj
    rcases j with _ | j <;> simp at hj
    subst hj
    simpa [Addr.add] using hc
  · intro u hu
    simp at hu
    subst hu
    rfl
/-- One byte more, out of a row of one that has just been laid. -/
theorem putB1 {ops : Array Oper} {rest : List Oper} {o : Oper} {a : Act} {w : World} {Q : Exit → Act → World → Prop} (hgd : o.guard = none) (s x : Operand)
    (ho : o.op = .call { callee := .builtin .append, args := #[s, x], argTypes := #[47, 47] })
    {B n : Nat} {l : List UInt8} {v : Value} (hT : w.ownsRow B 5 1 v n (byteCells l)) (hs : a.eval s = v) {X : Int} (z : UInt8) (hz : X = (z.toNat : Int)) (hx : a.eval x = .slice (some ⟨w.heap.size, 0, none⟩) 1 1) (hn : n + 1 ≤ 2000000) (hB : B ≤ w.heap.size)
    (h : ∀ v' w', w'.ownsRow B 5 1 v' (n + 1) (byteCells (l ++ [z])) → To w v w' v' → wpList Tryz.prog ops Q rest (a.put o.dst v') w') : wpList Tryz.prog ops Q (o :: rest) a (w.alloc (.cells #[.int .u8 X] 5)) := by
  subst hz
  refine putB hgd s x ho (grow_own hT (grown_alloc _ _ _)) hs ⟨w.heap.size, 0, none⟩ 1 1 [z] hx rfl ?_ hn (by simp; omega) fun v' w' h2 h3 => h v' w' h2 (To.pre (grown_alloc _ _ _) h3)
  intro j hj
  obtain rfl : j = 0 := by simpa using hj
  simp [Addr.add]
theorem putW1 {ops : Array Oper} {rest : List Oper} {o : Oper} {a : Act} {w : World} {Q : Exit → Act → World → Prop} (hgd : o.guard = none) (s x : Operand)
    (ho : o.op = .call { callee := .builtin .append, args := #[s, x], argTypes := #[46, 46] })
    {B n : Nat} {l : List Nat} {v : Value} (hT : w.ownsRow B 27 1 v n (wordCells l)) (hs : a.eval s = v) (p : Nat) (hx : a.eval x = .slice (some ⟨w.heap.size, 0, none⟩) 1 1) (hn : n + 1 ≤ 2000000) (hB : B ≤ w.heap.size)
    (h : ∀ v' w', w'.ownsRow B 27 1 v' (n + 1) (wordCells (l ++ [p])) → To w v w' v' → wpList Tryz.prog ops Q rest (a.put o.dst v') w') : wpList Tryz.prog ops Q (o :: rest) a (w.alloc (.cells #[.int .u64 (p : Int)] 27)) :=
  putW hgd s x ho (grow_own hT (grown_alloc _ _ _)) hs ⟨w.heap.size, 0, none⟩ 1 p hx (by simp) hn (by simp; omega) fun v' w' h2 h3 => h v' w' h2 (To.pre (grown_alloc _ _ _) h3)
end Go.Proofs.Qxb6500680aGreatDoor
