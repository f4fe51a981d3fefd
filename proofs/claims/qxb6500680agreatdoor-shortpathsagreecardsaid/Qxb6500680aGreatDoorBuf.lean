import Derived.Test.Qxb6500680aGreatDoorRk
import Derived.Test.Qxb6500680aGreatDoorAi
import Derived.Room.AppendFits
import Derived.Lib.BufferWrite
import Derived.Laws.OwnMore
namespace Go.Proofs.Qxb6500680aGreatDoor
open Go.RowKit Go.BigFrame
open Go.Lib (byteCells byteCells_append strCells_eq)
set_option linter.unusedSimpArgs false
attribute [local go_sem] ext_cell_if ext_frozen_if alloc_cell_if alloc_frozen_if ext_size ext_ext
theorem grown_trans {w w1 w2 : World} {r : Option Nat} (h : w.grownBy w1 r) (h' : w1.grownBy w2 r) : w.grownBy w2 r :=
  ⟨h'.os.trans h.os, h'.tape.trans h.tape, h'.output.trans h.output, Nat.le_trans h.size h'.size, fun k hk hne => (h'.block k (Nat.lt_of_lt_of_le hk h.size) hne).trans (h.block k hk hne)⟩
theorem grown_alloc (w : World) (o : Obj) (r : Option Nat) : w.grownBy (w.alloc o) r := ⟨rfl, rfl, rfl, by simp, fun k hk _ => (((Gr.refl w).alloc o).1.block k hk)⟩
theorem grown_refl (w : World) (r : Option Nat) : w.grownBy w r := ⟨rfl, rfl, rfl, Nat.le_refl _, fun _ _ _ => rfl⟩
theorem Tryz.info5 : (Tryz.prog.info? 5).map (fun i => (i.zero, i.size, i.bytes)) = some (some (.int .u8 0), 1, 1) := by kernel_rfl
/-- A row of bytes of the call's own, with its room. -/
abbrev Row (B g : Nat) (w : World) (n c : Nat) (l : List UInt8) : Prop := w.ownsRow B 5 1 (.slice (some ⟨g, 0, none⟩) n c) n (byteCells l)
/-- One byte more, where there is room. -/
theorem wpList_put1 {ops : Array Oper} {rest : List Oper} {o : Oper} {a : Act} {w : World} {Q : Exit → Act → World → Prop} (hgd : o.guard = none) (s x : Operand)
    (ho : o.op = .call { callee := .builtin .append, args := #[s, x], argTypes := #[47, 47] })
    {B g n c : Nat} {l : List UInt8} (hT : Row B g w n c l) (hs : a.eval s = .slice (some ⟨g, 0, none⟩) n c) (ad : Addr) (cp : Nat) (hx : a.eval x = .slice (some ad) 1 cp) (z : UInt8) (hz : w.cell? ad = some (.int .u8 (z.toNat : Int))) (hroom : n + 1 ≤ c)
    (h : ∀ w', Row B g w' (n + 1) c (l ++ [z]) → w.grownBy w' (some g) → wpList Tryz.prog ops Q rest (a.put o.dst (.slice (some ⟨g, 0, none⟩) (n + 1) c)) w') : wpList Tryz.prog ops Q (o :: rest) a w := by
  obtain ⟨i0, hi, hz0, hz1, hz2⟩ := info_parts Tryz.info5
  refine wpList_plain hgd fun K hK => ?_
  obtain ⟨w', hr, h2, h3⟩ := run_append_fits (P := Tryz.prog) w B 47 o.type 5 i0 1 Tryz.underlying47 hi hz1 g n c (byteCells l) hT ad 1 cp [.int .u8 (z.toNat : Int)] rfl (by intro j u hj; rcases j with _ | j <;> simp at hj; subst hj; simpa [Addr.add] using hz) (by intro u hu; simp at hu; subst hu; rfl) hroom
  unfold Oper.wp execOp
  simp only [ho, resolve, invoke, builtin, Sem.run_bind, Sem.run_pure, Result.andThen_ok, List.map_toArray, List.map_cons, List.map_nil, hs, hx, hr]
  exact hK _ _ (h w' (by unfold Row; rw [byteCells_append]; exact h2) h3)
/-- A string behind the row, where there is room. -/
theorem wpList_puts {ops : Array Oper} {rest : List Oper} {o : Oper} {a : Act} {w : World} {Q : Exit → Act → World → Prop} (hgd : o.guard = none) (sl x : Operand)
    (ho : o.op = .call { callee := .builtin .append, args := #[sl, x], argTypes := #[47, 9] })
    {B g n c : Nat} {l : List UInt8} (hT : Row B g w n c l) (hs : a.eval sl = .slice (some ⟨g, 0, none⟩) n c) (s : ByteArray) (hx : a.eval x = .string s) (h0 : 0 < c) (hroom : n + s.size ≤ c)
    (h : ∀ w', Row B g w' (n + s.size) c (l ++ s.data.toList) → w.grownBy w' (some g) → wpList Tryz.prog ops Q rest (a.put o.dst (.slice (some ⟨g, 0, none⟩) (n + s.size) c)) w') : wpList Tryz.prog ops Q (o :: rest) a w := by
  obtain ⟨i0, hi, hz0, hz1, hz2⟩ := info_parts Tryz.info5
  refine Go.Lib.wpList_append_fits_string w hgd sl x 47 9 ho B 5 i0 Tryz.underlying47 Tryz.underlying9 hi hz1 _ n c (byteCells l) hs hT s hx h0 hroom fun w' h2 h3 => h w' ?_ h3
  unfold Row
  rw [byteCells_append, ← strCells_eq]
  exact h2
theorem Row.grow {B g : Nat} {w w' : World} {n c : Nat} {l : List UInt8} (h : Row B g w n c l) (hg : w.grownBy w' none) : Row B g w' n c l := World.ownsRow.kept h hg (.inr (by simp [Value.ownBlock]))
def hexTab : List UInt8 := [48, 49, 50, 51, 52, 53, 54, 55, 56, 57, 97, 98, 99, 100, 101, 102]
/-- The i-th hexadecimal digit of v, as a byte. -/
def hexAt (v i : Nat) : UInt8 := hexTab.getD (v / 2 ^ (4 * i) % 16) 0
def hexs (v : Nat) : Nat → List UInt8
  | 0 => []
  | n + 1 => hexAt v n :: hexs v n
theorem hexs_len (v : Nat) : ∀ n, (hexs v n).length = n
  | 0 => rfl
  | n + 1 => by simp [hexs, hexs_len v n]
theorem hex_cell (d : Nat) (hd : d < 16) : ∀ h : d < (⟨#[48, 49, 50, 51, 52, 53, 54, 55, 56, 57, 97, 98, 99, 100, 101, 102]⟩ : ByteArray).size, (⟨#[48, 49, 50, 51, 52, 53, 54, 55, 56, 57, 97, 98, 99, 100, 101, 102]⟩ : ByteArray)[d] = hexTab.getD d 0 := by
  rcases d with _|_|_|_|_|_|_|_|_|_|_|_|_|_|_|_|d
  all_goals first | omega | (intro h; rfl)
/-- appendHex. -/
def HexOK (B g n c : Nat) (l : List UInt8) (w : World) (e : Ending) (w' : World) : Prop := e = .returned (.slice (some ⟨g, 0, none⟩) n c) ∧ Row B g w' n c l ∧ w.grownBy w' (some g)
set_option maxRecDepth 100000 in
theorem appendHex_any (B g n c : Nat) (l : List UInt8) (v k : Nat) (hv : v ≤ 18446744073709551615) (hk : k ≤ 16) (hroom : n + k ≤ c) (w : World) (hT : Row B g w n c l) : Calls Tryz.prog 185 #[.slice (some ⟨g, 0, none⟩) n c, .int .u64 v, .int .i64 k] w (HexOK B g (n + k) c (l ++ hexs v k) w) := by
  have HT := hidden hT
  clear hT
  go_enter Tryz.func185, Tryz.ntmps185
  go_wp2
  go_loopw [0, 7] (fun s0 s7 wi => ∃ (j n1 : Nat) (l1 : List UInt8), j ≤ k ∧ n1 + j = n + k ∧ s0 = .slice (some ⟨g, 0, none⟩) n1 c ∧ s7 = .int .i64 ((j : Int) - 1) ∧ l1 ++ hexs v j = l ++ hexs v k ∧ Row B g wi n1 c l1 ∧ w.grownBy wi (some g)) (fun _ s7 _ => (intOf s7 + 1).toNat)
  case atStart => exact ⟨k, n, l, Nat.le_refl _, rfl, rfl, rfl, rfl, HT.out, grown_refl _ _⟩
  case round =>
    obtain ⟨j, n1, l1, hj, hn1, rfl, rfl, hl1, hrow, hgrow⟩ := hrel
    have HR := hidden hrow
    have HG := hidden hgrow
    have HL := hidden hl1
    clear hrow hgrow hl1
    rcases j with _ | j
    · go_wp2_with (fail)
      have e1 : n1 = n + k := by omega
      subst e1
      have e2 : l1 = l ++ hexs v k := by have := HL.out; simpa [hexs] using this
      subst e2
      go_ret
      exact ⟨rfl, HR.out, HG.out⟩
    · obtain ⟨d, hd, hd16⟩ : ∃ d, v / 2 ^ (4 * j) % 16 = d ∧ d < 16 := ⟨_, rfl, by omega⟩
      have hj16 : j < 16 := by omega
      have eb : bits .and .u64 ((v : Int) / 2 ^ (4 * j)) 15 = (d : Int) := by
        have h := and_low 4 (by decide) (v / 2 ^ (4 * j)) (by have := Nat.div_le_self v (2 ^ (4 * j)); omega)
        rw [show ((v : Int) / 2 ^ (4 * j)) = ((v / 2 ^ (4 * j) : Nat) : Int) by simp, show (15 : Int) = ((2 ^ 4 - 1 : Nat) : Int) by decide, h, show (2 : Nat) ^ 4 = 16 by decide, hd]
      have hz : hexAt v j = hexTab.getD d 0 := by unfold hexAt; rw [hd]
      have hc := hex_cell d hd16
      go_wp2_with (at_builtin; refine wpList_put1 rfl (.tmp 14) (.tmp 22) rfl (HR.out.grow (grown_alloc _ _ _)) (by simp [Act.eval]) ⟨wr.heap.size, 0, none⟩ 1 (by simp [Act.eval]) (hexAt v j) (by simp [hz]) (by omega) ?_)
      intro w1 hrow1 hgrow1
      have HR1 := hidden hrow1
      have HG1 := hidden (grown_trans HG.out (grown_trans (grown_alloc _ _ _) hgrow1))
      clear hrow1 hgrow1
      go_wp2_with (fail)
      exact ⟨⟨j, n1 + 1, l1 ++ [hexAt v j], by omega, by omega, rfl, rfl, by have := HL.out; simpa [hexs] using this, by rw [hz]; simpa using HR1.out, HG1.out⟩, by simp [intOf]⟩
end Go.Proofs.Qxb6500680aGreatDoor
