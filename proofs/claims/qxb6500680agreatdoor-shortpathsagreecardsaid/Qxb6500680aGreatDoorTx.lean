import Derived.Test.Qxb6500680aGreatDoorTleaf
namespace Go.Proofs.Qxb6500680aGreatDoor
open Go.RowKit Go.BigFrame
open Go.Lib (byteCells byteCells_append strCells_eq)
set_option linter.unusedSimpArgs false
attribute [local go_sem] ext_cell_if ext_frozen_if alloc_cell_if alloc_frozen_if ext_size ext_ext
/-- A row of n bytes (whatever they are) of the call's own, with room for 24, in a world grown from w0; the format's copy lies in block bx. -/
structure Tx (B g n bx : Nat) (fm : Array Value) (w0 w : World) : Prop where
  row : ∃ l, Row B g w n 24 l
  box : w.heap[bx]? = some (.cells fm 35)
  gr : Gr B w0 w
  ne : bx ≠ g
theorem Tx.grown {B g n bx : Nat} {fm : Array Value} {w0 w w' : World} (h : Tx B g n bx fm w0 w) (hg : w.grownBy w' none) : Tx B g n bx fm w0 w' := by
  obtain ⟨l, hl⟩ := h.row
  exact ⟨⟨l, hl.grow hg⟩, (hg.block bx (lt_of_cells h.box) (by simp)).trans h.box, h.gr.grown hg (by simp), h.ne⟩
theorem Tx.alloc {B g n bx : Nat} {fm : Array Value} {w0 w : World} (h : Tx B g n bx fm w0 w) (o : Obj) : Tx B g n bx fm w0 (w.alloc o) := h.grown (grown_alloc _ _ _)
theorem Tx.ext {B g n bx : Nat} {fm : Array Value} {w0 w : World} (h : Tx B g n bx fm w0 w) (x : Nat → Array Obj × Nat) : Tx B g n bx fm w0 (ext w x) := h.grown (grown_ext _ _ _)
theorem Tx.grow {B g n m bx : Nat} {fm : Array Value} {w0 w w' : World} (h : Tx B g n bx fm w0 w) (hr : ∃ l, Row B g w' m 24 l) (hg : w.grownBy w' (some g)) : Tx B g m bx fm w0 w' := by
  obtain ⟨l, hl⟩ := h.row
  exact ⟨hr, (hg.block bx (lt_of_cells h.box) (by simpa using h.ne)).trans h.box, h.gr.grown hg (ownBlock_ge hl), h.ne⟩
theorem putT1 {ops : Array Oper} {rest : List Oper} {o : Oper} {a : Act} {w w0 : World} {Q : Exit → Act → World → Prop} (hgd : o.guard = none) (s x : Operand)
    (ho : o.op = .call { callee := .builtin .append, args := #[s, x], argTypes := #[47, 47] })
    {B g n bx : Nat} {fm : Array Value} (hT : Tx B g n bx fm w0 w) (hs : a.eval s = .slice (some ⟨g, 0, none⟩) n 24) (ad : Addr) (cp : Nat) (hx : a.eval x = .slice (some ad) 1 cp) (z : UInt8) (hz : w.cell? ad = some (.int .u8 (z.toNat : Int))) (m : Nat) (hm : n + 1 = m) (hroom : m ≤ 24)
    (h : ∀ w', Tx B g m bx fm w0 w' → wpList Tryz.prog ops Q rest (a.put o.dst (.slice (some ⟨g, 0, none⟩) m 24)) w') : wpList Tryz.prog ops Q (o :: rest) a w := by
  subst hm
  obtain ⟨l, hl⟩ := hT.row
  exact wpList_put1 hgd s x ho hl hs ad cp hx z hz hroom fun w' hr hg => h w' (hT.grow ⟨_, hr⟩ hg)
theorem putTs {ops : Array Oper} {rest : List Oper} {o : Oper} {a : Act} {w w0 : World} {Q : Exit → Act → World → Prop} (hgd : o.guard = none) (sl x : Operand)
    (ho : o.op = .call { callee := .builtin .append, args := #[sl, x], argTypes := #[47, 9] })
    {B g n bx : Nat} {fm : Array Value} (hT : Tx B g n bx fm w0 w) (hs : a.eval sl = .slice (some ⟨g, 0, none⟩) n 24) (s : ByteArray) (hx : a.eval x = .string s) (m : Nat) (hm : n + s.size = m) (hroom : m ≤ 24)
    (h : ∀ w', Tx B g m bx fm w0 w' → wpList Tryz.prog ops Q rest (a.put o.dst (.slice (some ⟨g, 0, none⟩) m 24)) w') : wpList Tryz.prog ops Q (o :: rest) a w := by
  subst hm
  obtain ⟨l, hl⟩ := hT.row
  exact wpList_puts hgd sl x ho hl hs s hx (by omega) hroom fun w' hr hg => h w' (hT.grow ⟨_, hr⟩ hg)
/-- appendHex on such a row. -/
def HexT (B g m bx : Nat) (fm : Array Value) (w0 : World) (e : Ending) (w' : World) : Prop := e = .returned (.slice (some ⟨g, 0, none⟩) m 24) ∧ Tx B g m bx fm w0 w'
theorem hexT {B g n m bx : Nat} {fm : Array Value} {w0 w : World} (v k : Nat) (hv : v ≤ 18446744073709551615) (hk : k ≤ 16) (hm : n + k = m) (hroom : m ≤ 24) (hT : Tx B g n bx fm w0 w) : Calls Tryz.prog 185 #[.slice (some ⟨g, 0, none⟩) n 24, .int .u64 v, .int .i64 k] w (HexT B g m bx fm w0) := by
  subst hm
  obtain ⟨l, hl⟩ := hT.row
  exact (appendHex_any B g n 24 l v k hv hk hroom w hl).mono fun e w' ⟨he, hr, hg⟩ => ⟨he, hT.grow ⟨_, hr⟩ hg⟩
/-- What AppendText answers: a row of bytes of the call's own. -/
def AppOK (B : Nat) (w : World) (e : Ending) (w' : World) : Prop := ∃ v n l, e = .returned v ∧ w'.ownsRow B 5 1 v n (byteCells l) ∧ n ≤ 100 ∧ Gr B w w'
theorem app_end {B g n bx : Nat} {fm : Array Value} {w0 w : World} (hT : Tx B g n bx fm w0 w) (hn : n ≤ 24) : AppOK B w0 (.returned (.slice (some ⟨g, 0, none⟩) n 24)) w := by
  obtain ⟨l, hl⟩ := hT.row
  exact ⟨_, n, l, rfl, hl, by omega, hT.gr⟩
/-- strconv.AppendInt behind such a row. -/
theorem intT {B g n bx : Nat} {fm : Array Value} {w0 w : World} (i : Int) (h0 : -9223372036854775808 ≤ i) (h1 : i ≤ 9223372036854775807) (hT : Tx B g n bx fm w0 w) (hn : n ≤ 24) (hlen : (Lib.itoa i).length ≤ 60) (htab : Lib.TabBelow Tryz.prog B w "internal/strconv.uint64pow10" .u64 Lib.pow10Tab) : Calls Tryz.prog 189 #[.slice (some ⟨g, 0, none⟩) n 24, .int .i64 i, .int .i64 10] w (AppOK B w0) := by
  obtain ⟨l, hl⟩ := hT.row
  refine (Tryz.appendInt10 B n i h0 h1 _ (byteCells l) w hl hT.gr.2 (by omega) htab).mono ?_
  rintro e w' ⟨v', rfl, ho, hb, _⟩
  refine ⟨v', n + (Lib.itoa i).length, l ++ Lib.itoa i, rfl, ?_, by omega, ⟨hT.gr.1.trans hb, by have := hT.gr.2; have := hb.size; omega⟩⟩
  rw [byteCells_append]
  exact ho
end Go.Proofs.Qxb6500680aGreatDoor
