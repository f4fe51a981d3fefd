import Derived.Test.Qxb6500680aGreatDoorText
import Derived.Test.Qxb6500680aGreatDoorTp
namespace Go.Proofs.Qxb6500680aGreatDoor
open Go.RowKit Go.BigFrame
open Go.Lib (byteCells byteCells_append strCells_eq)
set_option linter.unusedSimpArgs false
attribute [local go_sem] ext_cell_if ext_frozen_if alloc_cell_if alloc_frozen_if ext_size ext_ext
/-- As Tx, with the bytes. -/
structure Te (B g n : Nat) (l : List UInt8) (bx : Nat) (fm : Array Value) (w0 w : World) : Prop where
  row : Row B g w n 24 l
  box : w.heap[bx]? = some (.cells fm 35)
  gr : Gr B w0 w
  ne : bx ≠ g
theorem Te.grown {B g n bx : Nat} {l : List UInt8} {fm : Array Value} {w0 w w' : World} (h : Te B g n l bx fm w0 w) (hg : w.grownBy w' none) : Te B g n l bx fm w0 w' :=
  ⟨h.row.grow hg, (hg.block bx (lt_of_cells h.box) (by simp)).trans h.box, h.gr.grown hg (by simp), h.ne⟩
theorem Te.alloc {B g n bx : Nat} {l : List UInt8} {fm : Array Value} {w0 w : World} (h : Te B g n l bx fm w0 w) (o : Obj) : Te B g n l bx fm w0 (w.alloc o) := h.grown (grown_alloc _ _ _)
theorem Te.ext {B g n bx : Nat} {l : List UInt8} {fm : Array Value} {w0 w : World} (h : Te B g n l bx fm w0 w) (x : Nat → Array Obj × Nat) : Te B g n l bx fm w0 (ext w x) := h.grown (grown_ext _ _ _)
theorem Te.grow {B g n m bx : Nat} {l l' : List UInt8} {fm : Array Value} {w0 w w' : World} (h : Te B g n l bx fm w0 w) (hr : Row B g w' m 24 l') (hg : w.grownBy w' (some g)) : Te B g m l' bx fm w0 w' :=
  ⟨hr, (hg.block bx (lt_of_cells h.box) (by simpa using h.ne)).trans h.box, h.gr.grown hg (ownBlock_ge h.row), h.ne⟩
theorem putE1 {ops : Array Oper} {rest : List Oper} {o : Oper} {a : Act} {w w0 : World} {Q : Exit → Act → World → Prop} (hgd : o.guard = none) (s x : Operand)
    (ho : o.op = .call { callee := .builtin .append, args := #[s, x], argTypes := #[47, 47] })
    {B g n bx : Nat} {l : List UInt8} {fm : Array Value} (hT : Te B g n l bx fm w0 w) (hs : a.eval s = .slice (some ⟨g, 0, none⟩) n 24) (ad : Addr) (cp : Nat) (hx : a.eval x = .slice (some ad) 1 cp) (z : UInt8) (hz : w.cell? ad = some (.int .u8 (z.toNat : Int))) (m : Nat) (hm : n + 1 = m) (hroom : m ≤ 24)
    (h : ∀ w', Te B g m (l ++ [z]) bx fm w0 w' → wpList Tryz.prog ops Q rest (a.put o.dst (.slice (some ⟨g, 0, none⟩) m 24)) w') : wpList Tryz.prog ops Q (o :: rest) a w := by
  subst hm
  exact wpList_put1 hgd s x ho hT.row hs ad cp hx z hz hroom fun w' hr hg => h w' (hT.grow hr hg)
theorem putEs {ops : Array Oper} {rest : List Oper} {o : Oper} {a : Act} {w w0 : World} {Q : Exit → Act → World → Prop} (hgd : o.guard = none) (sl x : Operand)
    (ho : o.op = .call { callee := .builtin .append, args := #[sl, x], argTypes := #[47, 9] })
    {B g n bx : Nat} {l : List UInt8} {fm : Array Value} (hT : Te B g n l bx fm w0 w) (hs : a.eval sl = .slice (some ⟨g, 0, none⟩) n 24) (s : ByteArray) (hx : a.eval x = .string s) (m : Nat) (hm : n + s.size = m) (hroom : m ≤ 24)
    (h : ∀ w', Te B g m (l ++ s.data.toList) bx fm w0 w' → wpList Tryz.prog ops Q rest (a.put o.dst (.slice (some ⟨g, 0, none⟩) m 24)) w') : wpList Tryz.prog ops Q (o :: rest) a w := by
  subst hm
  exact wpList_puts hgd sl x ho hT.row hs s hx (by omega) hroom fun w' hr hg => h w' (hT.grow hr hg)
/-- appendHex on such a row. -/
def HexE (B g m : Nat) (l : List UInt8) (bx : Nat) (fm : Array Value) (w0 : World) (e : Ending) (w' : World) : Prop := e = .returned (.slice (some ⟨g, 0, none⟩) m 24) ∧ Te B g m l bx fm w0 w'
theorem hexE {B g n m bx : Nat} {l : List UInt8} {fm : Array Value} {w0 w : World} (v k : Nat) (hv : v ≤ 18446744073709551615) (hk : k ≤ 16) (hm : n + k = m) (hroom : m ≤ 24) (hT : Te B g n l bx fm w0 w) : Calls Tryz.prog 185 #[.slice (some ⟨g, 0, none⟩) n 24, .int .u64 v, .int .i64 k] w (HexE B g m (l ++ hexs v k) bx fm w0) := by
  subst hm
  exact (appendHex_any B g n 24 l v k hv hk hroom w hT.row).mono fun e w' ⟨he, hr, hg⟩ => ⟨he, hT.grow hr hg⟩
/-- AppendText answers the row of these bytes. -/
def AppE (B : Nat) (w : World) (tl : List UInt8) (e : Ending) (w' : World) : Prop := ∃ v n, e = .returned v ∧ w'.ownsRow B 5 1 v n (byteCells tl) ∧ n ≤ 100 ∧ Gr B w w'
theorem appE_end {B g n bx : Nat} {l : List UInt8} {fm : Array Value} {w0 w : World} (hT : Te B g n l bx fm w0 w) (hn : n ≤ 24) : AppE B w0 l (.returned (.slice (some ⟨g, 0, none⟩) n 24)) w := ⟨_, n, rfl, hT.row, by omega, hT.gr⟩
/-- strconv.AppendInt behind such a row. -/
theorem intE {B g n bx : Nat} {l : List UInt8} {fm : Array Value} {w0 w : World} (i : Int) (h0 : -9223372036854775808 ≤ i) (h1 : i ≤ 9223372036854775807) (hT : Te B g n l bx fm w0 w) (hn : n ≤ 24) (hlen : (Lib.itoa i).length ≤ 60) (htab : Lib.TabBelow Tryz.prog B w "internal/strconv.uint64pow10" .u64 Lib.pow10Tab) : Calls Tryz.prog 189 #[.slice (some ⟨g, 0, none⟩) n 24, .int .i64 i, .int .i64 10] w (AppE B w0 (l ++ Lib.itoa i)) := by
  refine (Tryz.appendInt10 B n i h0 h1 _ (byteCells l) w hT.row hT.gr.2 (by omega) htab).mono ?_
  rintro e w' ⟨v', rfl, ho, hb, _⟩
  refine ⟨v', n + (Lib.itoa i).length, rfl, ?_, by omega, ⟨hT.gr.1.trans hb, by have := hT.gr.2; have := hb.size; omega⟩⟩
  rw [byteCells_append]
  exact ho
theorem Te.cell {B g n bx : Nat} {l : List UInt8} {fm : Array Value} {w0 w : World} (h : Te B g n l bx fm w0 w) (o : Nat) : w.cell? ⟨bx, o, none⟩ = fm[o]? := cell_of_cells h.box o
theorem Te.mark {B g n bx : Nat} {l : List UInt8} {fm : Array Value} {w0 w : World} (h : Te B g n l bx fm w0 w) (o : Nat) : w.frozen? ⟨bx, o, none⟩ = false := mark_of_cells h.box o
theorem Te.lt {B g n bx : Nat} {l : List UInt8} {fm : Array Value} {w0 w : World} (h : Te B g n l bx fm w0 w) : bx < w.heap.size := lt_of_cells h.box
def sgc (b : Bool) : UInt8 := if b then 45 else 43
/-- The exponent that is written, and the digit before the point. -/
def ExR (M F : Nat) (HB BI EI : Int) (c : UInt8) (i : Int) : Prop := ((M : Int) < HB ∧ c = 48 ∧ i = EI) ∨ (¬ (M : Int) < HB ∧ c = 49 ∧ i = wrap64 (wrap64 ((M : Int) / 2 ^ min F 64) - BI))
/-- What AppendText writes. -/
def AppR (b : Bool) (M G F : Nat) (EM HB BI EI : Int) (H PD : Nat) (tl : List UInt8) : Prop :=
  (((M : Int) == 0) = true ∧ tl = [sgc b] ++ [48, 120, 48, 112, 43, 48]) ∨
  (((M : Int) == 0) = false ∧ ((M : Int) == EM) = true ∧ tl = [sgc b] ++ [105, 110, 102]) ∨
  (((M : Int) == 0) = false ∧ EM < (M : Int) ∧ tl = [sgc b] ++ [110, 97, 110, 40, 48, 120] ++ hexs G H ++ [41]) ∨
  (((M : Int) == 0) = false ∧ ((M : Int) == EM) = false ∧ ¬ EM < (M : Int) ∧ ∃ c i V, ExR M F HB BI EI c i ∧ IntKind.u64.wrap ((G : Int) * 2 ^ min PD 64) = (V : Nat) ∧ tl = [sgc b] ++ [48, 120, c, 46] ++ hexs V H ++ [112] ++ (if 0 ≤ i then [43] else []) ++ Lib.itoa i)
def AppD (sb : Bool) (p F : Nat) (MM FM EM HB BI EI : Int) (H PD : Nat) (tl : List UInt8) : Prop := ∃ M G : Nat, bits .and .u64 (p : Int) MM = M ∧ bits .and .u64 (M : Int) FM = G ∧ AppR sb M G F EM HB BI EI H PD tl
def AppX (B : Nat) (w : World) (D : List UInt8 → Prop) (e : Ending) (w' : World) : Prop := ∃ tl, D tl ∧ AppE B w tl e w'
set_option maxRecDepth 100000 in
set_option maxHeartbeats 2000000 in
theorem appendText_eq {W E F : Nat} {MM FM EM HB BI EI XI : Int} {H PD : Nat} (fc : Fc W E F MM FM EM HB BI EI XI H PD) (B g p : Nat) (w : World) (b : Bool) (c165 : ∀ w, Calls Tryz.prog 165 #[.agg #[.int .u64 W, .int .u64 E, .int .u64 F], .int .u64 p] w fun e w' => e = .returned (.bool b) ∧ ∃ x, w' = ext w x) (hT : Row B g w 0 24 []) (hB : B ≤ w.heap.size)
    (htab : Lib.TabBelow Tryz.prog B w "internal/strconv.uint64pow10" .u64 Lib.pow10Tab) : Calls Tryz.prog 82 #[.agg #[.int .u64 W, .int .u64 E, .int .u64 F], .slice (some ⟨g, 0, none⟩) 0 24, .int .u64 p] w (AppX B w (AppD b p F MM FM EM HB BI EI H PD)) := by
  have hg : g < w.heap.size := (World.ownsRow.lt hT g rfl).2
  obtain ⟨bx, hbx⟩ : ∃ bx, bx = w.heap.size := ⟨_, rfl⟩
  have T0 : Hid (Te B g 0 [] bx #[.int .u64 W, .int .u64 E, .int .u64 F] w (w.alloc (.cells #[.int .u64 W, .int .u64 E, .int .u64 F] 35))) := hidden (by
    subst hbx
    exact ⟨hT.grow (grown_alloc _ _ _), heap_new _ _, Gr.alloc ⟨Below.refl _ _, hB⟩ _, by omega⟩)
  have C165 := hidden c165
  have C90 := hidden fc.c90
  have C156 := hidden fc.c156
  have C85 := hidden fc.c85
  have C158 := hidden fc.c158
  have C145 := hidden fc.c145
  have C187 := hidden fc.c187
  have C186 := hidden fc.c186
  have C188 := hidden fc.c188
  have hH := fc.hH
  have hEI := hidden fc.hEI
  have HT := hidden htab
  clear c165 fc hT hB htab hg
  go_enter Tryz.func82, Tryz.ntmps82
  go_upto_if 12 with (go_at_call 165; (with_reducible refine (C165.out _).mono ?_); rintro _ _ ⟨rfl, x1, rfl⟩)
  simp only [← hbx]
  refine wp_gen (fun w1 => Te B g 0 [] bx #[.int .u64 W, .int .u64 E, .int .u64 F] w w1) (T0.out.ext _) ?_
  intro w1 t1
  have T1 := hidden t1
  clear t1 C165 T0 hbx
  go_cut [1] (fun s1 wc => s1 = .slice (some ⟨g, 0, none⟩) 1 24 ∧ Te B g 1 [sgc b] bx #[.int .u64 W, .int .u64 E, .int .u64 F] w wc)
  case first =>
    cases b
    · go_wp2_with (at_builtin; refine putE1 rfl (.tmp 16) (.tmp 17) rfl (T1.out.alloc _) (by simp [Act.eval]) ⟨w1.heap.size, 0, none⟩ 1 (by simp [Act.eval]) 43 (by simp) 1 rfl (by decide) ?_; intro w2 t2; have T2 := hidden t2; clear t2)
      go_meet
      case rel => exact ⟨rfl, T2.out⟩
    · go_wp2_with (at_builtin; refine putE1 rfl (.tmp 13) (.tmp 14) rfl (T1.out.alloc _) (by simp [Act.eval]) ⟨w1.heap.size, 0, none⟩ 1 (by simp [Act.eval]) 45 (by simp) 1 rfl (by decide) ?_; intro w2 t2; have T2 := hidden t2; clear t2)
      go_meet
      case rel => exact ⟨rfl, T2.out⟩
  case rest =>
    obtain ⟨rfl, t2⟩ := hcut
    have T2 := hidden t2
    have k0 : wc.cell? ⟨bx, 0, none⟩ = some (.int .u64 W) := t2.cell 0
    have k1 : wc.cell? ⟨bx, 1, none⟩ = some (.int .u64 E) := t2.cell 1
    have k2 : wc.cell? ⟨bx, 2, none⟩ = some (.int .u64 F) := t2.cell 2
    have m0 := t2.mark 0
    have m1 := t2.mark 1
    have m2 := t2.mark 2
    have hlt := t2.lt
    clear t2 T1
    obtain ⟨M, hM, hMb⟩ := bits_nat .and (p : Int) MM
    obtain ⟨G, hG, hGb⟩ := bits_nat .and (M : Int) FM
    have HMb := hidden hMb
    have HGb := hidden hGb
    clear hMb hGb
    have HM := hidden hM
    have HGG := hidden hG
    go_upto_if 27 with (first | (go_at_call 90; (with_reducible refine (C90.out _).mono ?_); rintro _ _ ⟨rfl, x2, rfl⟩) | (go_at_call 156; (with_reducible refine (C156.out _).mono ?_); rintro _ _ ⟨rfl, x3, rfl⟩))
    try simp only [hM]
    try simp only [hG]
    clear hM hG C90 C156
    refine wp_gen (fun w1 => Te B g 1 [sgc b] bx #[.int .u64 W, .int .u64 E, .int .u64 F] w w1) (T2.out.ext _) ?_
    clear k0 k1 k2 m0 m1 m2 hlt
    intro w3 t3
    have T3 := hidden t3
    have k0 : w3.cell? ⟨bx, 0, none⟩ = some (.int .u64 W) := t3.cell 0
    have k1 : w3.cell? ⟨bx, 1, none⟩ = some (.int .u64 E) := t3.cell 1
    have k2 : w3.cell? ⟨bx, 2, none⟩ = some (.int .u64 F) := t3.cell 2
    have m0 := t3.mark 0
    have m1 := t3.mark 1
    have m2 := t3.mark 2
    have hlt := t3.lt
    clear t3 T2
    obtain ⟨b0, hb0⟩ : ∃ b, ((M : Int) == 0) = b := ⟨_, rfl⟩
    have HB0 := hidden hb0
    cases b0
    · obtain ⟨b1, hb1⟩ : ∃ b, ((M : Int) == EM) = b := ⟨_, rfl⟩
      have HB1 := hidden hb1
      cases b1
      · by_cases c2 : EM < (M : Int)
        all_goals have HC2 := hidden c2
        · go_upto_region 12 with (first | (go_at_call 85; (with_reducible refine (C85.out _).mono ?_); rintro _ _ ⟨rfl, x4, rfl⟩) | (at_builtin; refine putEs rfl (.tmp 44) (.const (.string ⟨#[110, 97, 110, 40, 48, 120]⟩)) rfl ((T3.out.ext _)) (by simp [Act.eval]) _ rfl 7 rfl (by decide) ?_; intro w4 t4; have T4 := hidden t4; clear t4))
          have t4 := T4.out
          clear T4 k0 k1 k2 m0 m1 m2 hlt
          have T4 := hidden t4
          have k0 : w4.cell? ⟨bx, 0, none⟩ = some (.int .u64 W) := t4.cell 0
          have k1 : w4.cell? ⟨bx, 1, none⟩ = some (.int .u64 E) := t4.cell 1
          have k2 : w4.cell? ⟨bx, 2, none⟩ = some (.int .u64 F) := t4.cell 2
          have m0 := t4.mark 0
          have m1 := t4.mark 1
          have m2 := t4.mark 2
          have hlt := t4.lt
          clear t4
          have HX := hidden (fun x => hexE (m := 7 + H) G H HGb.out (by omega) rfl (by omega) (T4.out.ext x))
          go_wp2_with (first | (go_at_call 186; (with_reducible refine (C186.out _).mono ?_); rintro _ _ ⟨rfl, x5, rfl⟩) | (go_at_call 185; (with_reducible refine (HX.out _).mono ?_); rintro _ w5 ⟨rfl, t5⟩; have T5 := hidden t5; clear t5) | (at_builtin; refine putE1 rfl (.tmp 51) (.tmp 52) rfl (T5.out.alloc _) (by simp [Act.eval]) ⟨w5.heap.size, 0, none⟩ 1 (by simp [Act.eval]) 41 (by simp) (7 + H + 1) rfl (by omega) ?_; intro w6 t6; have T6 := hidden t6; clear t6))
          go_ret
          exact ⟨_, ⟨M, G, HM.out, HGG.out, .inr (.inr (.inl ⟨HB0.out, HC2.out, rfl⟩))⟩, appE_end T6.out (by omega)⟩
        · go_upto_if 59 with (first | (go_at_call 85; (with_reducible refine (C85.out _).mono ?_); rintro _ _ ⟨rfl, x4, rfl⟩) | (go_at_call 187; (with_reducible refine (C187.out _).mono ?_); rintro _ _ ⟨rfl, x5, rfl⟩) | (go_at_call 158; (with_reducible refine (C158.out _).mono ?_); rintro _ _ ⟨rfl, x6, rfl⟩))
          refine wp_gen (fun w1 => Te B g 1 [sgc b] bx #[.int .u64 W, .int .u64 E, .int .u64 F] w w1) (T3.out.ext _) ?_
          clear k0 k1 k2 m0 m1 m2 hlt
          intro w4 t4
          have T4 := hidden t4
          have k0 : w4.cell? ⟨bx, 0, none⟩ = some (.int .u64 W) := t4.cell 0
          have k1 : w4.cell? ⟨bx, 1, none⟩ = some (.int .u64 E) := t4.cell 1
          have k2 : w4.cell? ⟨bx, 2, none⟩ = some (.int .u64 F) := t4.cell 2
          have m0 := t4.mark 0
          have m1 := t4.mark 1
          have m2 := t4.mark 2
          have hlt := t4.lt
          clear t4
          clear T3 C187 C158 C85 hb0 hb1
          go_cut [1, 9] (fun s1 s9 wd => ∃ (c : UInt8) (i : Int), ExR M F HB BI EI c i ∧ s1 = .slice (some ⟨g, 0, none⟩) 5 24 ∧ s9 = .int .i64 i ∧ (-9223372036854775808 ≤ i ∧ i ≤ 9223372036854775807) ∧ Te B g 5 ([sgc b] ++ [48, 120, c, 46]) bx #[.int .u64 W, .int .u64 E, .int .u64 F] w wd)
          case first =>
            by_cases c3 : (M : Int) < HB
            · go_wp2_with (at_builtin; refine putEs rfl (.tmp 60) (.const (.string ⟨#[48, 120, 48, 46]⟩)) rfl T4.out (by simp [Act.eval]) _ rfl 5 rfl (by decide) ?_; intro w5 t5; have T5 := hidden t5; clear t5)
              go_meet
              case rel => exact ⟨48, EI, .inl ⟨c3, rfl, rfl⟩, rfl, rfl, hEI.out, T5.out⟩
            · go_upto_region 18 with (at_builtin; refine putEs rfl (.tmp 62) (.const (.string ⟨#[48, 120, 49, 46]⟩)) rfl T4.out (by simp [Act.eval]) _ rfl 5 rfl (by decide) ?_; intro w5 t5; have T5 := hidden t5; clear t5)
              have t5 := T5.out
              clear T5 k0 k1 k2 m0 m1 m2 hlt
              have T5 := hidden t5
              have k0 : w5.cell? ⟨bx, 0, none⟩ = some (.int .u64 W) := t5.cell 0
              have k1 : w5.cell? ⟨bx, 1, none⟩ = some (.int .u64 E) := t5.cell 1
              have k2 : w5.cell? ⟨bx, 2, none⟩ = some (.int .u64 F) := t5.cell 2
              have m0 := t5.mark 0
              have m1 := t5.mark 1
              have m2 := t5.mark 2
              have hlt := t5.lt
              clear t5
              refine wp_region_ext (by kernel_rfl) (by kernel_rfl) ?_
              repeat (go_big_quiet_step ((go_at_call 145; first | with_reducible exact Calls_ext (C145.out _) | with_reducible exact Calls_ext2 (C145.out _))))
              refine wpQuiet_nil ?_
              rintro w6 ⟨x6, rfl⟩
              go_wp2_with (fail)
              go_meet
              case rel => exact ⟨49, _, .inr ⟨by omega, rfl, rfl⟩, rfl, rfl, wrap64_bd _, T5.out.ext _⟩
          case rest =>
            obtain ⟨c, i, hex, rfl, rfl, hi, t5⟩ := hcut
            have HEX := hidden hex
            clear hex
            clear k0 k1 k2 m0 m1 m2 hlt
            have T5 := hidden t5
            have k0 : wc.cell? ⟨bx, 0, none⟩ = some (.int .u64 W) := t5.cell 0
            have k1 : wc.cell? ⟨bx, 1, none⟩ = some (.int .u64 E) := t5.cell 1
            have k2 : wc.cell? ⟨bx, 2, none⟩ = some (.int .u64 F) := t5.cell 2
            have m0 := t5.mark 0
            have m1 := t5.mark 1
            have m2 := t5.mark 2
            have hlt := t5.lt
            clear t5
            clear T4
            obtain ⟨V, hV, hVb⟩ := wr_nat ((G : Int) * 2 ^ min PD 64)
            have HX := hidden (fun x => hexE (m := 5 + H) V H hVb (by omega) rfl (by omega) (T5.out.ext x))
            have HI := hidden hi
            have HVV := hidden hV
            clear hVb hi
            go_upto_region 19 with (fail)
            refine wp_region_pivot 7 (by kernel_rfl) (by kernel_rfl) (by kernel_rfl) ?_
            simp only [List.take_succ_cons, List.take_zero, List.drop_succ_cons, List.drop_zero]
            repeat (go_big_quiet_step ((first | (go_at_call 188; first | with_reducible exact Calls_ext (C188.out _) | with_reducible exact Calls_ext2 (C188.out _)) | (go_at_call 186; first | with_reducible exact Calls_ext (C186.out _) | with_reducible exact Calls_ext2 (C186.out _)))))
            refine wpQuiet_nil ?_
            rintro w6 ⟨x6, rfl⟩
            try simp only [hV]
            go_wp2_with (go_at_call 185; (with_reducible refine (HX.out _).mono ?_); rintro _ w7 ⟨rfl, t7⟩; have T7 := hidden t7; clear t7)
            simp only [endBy]
            repeat (go_big_quiet_step ((fail)))
            refine wpQuiet_nil ?_
            clear k0 k1 k2 m0 m1 m2 hlt T5 HX
            go_upto_if 84 with (at_builtin; refine putE1 rfl (.tmp 80) (.tmp 81) rfl (T7.out.alloc _) (by simp [Act.eval]) ⟨w7.heap.size, 0, none⟩ 1 (by simp [Act.eval]) 112 (by simp) (5 + H + 1) rfl (by omega) ?_; intro w8 t8; have T8 := hidden t8; clear t8)
            by_cases c4 : 0 ≤ i
            · go_upto_region 23 with (at_builtin; refine putE1 rfl (.tmp 85) (.tmp 86) rfl (T8.out.alloc _) (by simp [Act.eval]) ⟨w8.heap.size, 0, none⟩ 1 (by simp [Act.eval]) 43 (by simp) (5 + H + 1 + 1) rfl (by omega) ?_; intro w9 t9; have T9 := hidden t9; clear t9)
              have AI := hidden (intE i HI.out.1 HI.out.2 T9.out (by omega) (by have := Lib.itoa_length_le i HI.out.1 HI.out.2; omega) (HT.out.on T9.out.gr.1))
              go_wp2_with (go_at_call 189; (with_reducible refine AI.out.mono ?_); rintro _ w10 ⟨v, n, rfl, h10⟩; have H10 := hidden h10; clear h10)
              go_ret
              exact ⟨_, ⟨M, G, HM.out, HGG.out, .inr (.inr (.inr ⟨HB0.out, HB1.out, Int.not_lt.2 HC2.out, c, i, V, HEX.out, HVV.out, by rw [if_pos c4]⟩))⟩, _, _, rfl, H10.out⟩
            · go_upto_region 23 with (fail)
              have AI := hidden (intE i HI.out.1 HI.out.2 T8.out (by omega) (by have := Lib.itoa_length_le i HI.out.1 HI.out.2; omega) (HT.out.on T8.out.gr.1))
              go_wp2_with (go_at_call 189; (with_reducible refine AI.out.mono ?_); rintro _ w10 ⟨v, n, rfl, h10⟩; have H10 := hidden h10; clear h10)
              go_ret
              exact ⟨_, ⟨M, G, HM.out, HGG.out, .inr (.inr (.inr ⟨HB0.out, HB1.out, Int.not_lt.2 HC2.out, c, i, V, HEX.out, HVV.out, by rw [if_neg (by omega), List.append_nil]⟩))⟩, _, _, rfl, H10.out⟩
      · go_wp2_with (first | (go_at_call 85; (with_reducible refine (C85.out _).mono ?_); rintro _ _ ⟨rfl, x4, rfl⟩) | (at_builtin; refine putEs rfl (.tmp 37) (.const (.string ⟨#[105, 110, 102]⟩)) rfl (T3.out.ext _) (by simp [Act.eval]) _ rfl 4 rfl (by decide) ?_; intro w4 t4; have T4 := hidden t4; clear t4))
        go_ret
        exact ⟨_, ⟨M, G, HM.out, HGG.out, .inr (.inl ⟨HB0.out, HB1.out, rfl⟩)⟩, appE_end T4.out (by decide)⟩
    · go_wp2_with (at_builtin; refine putEs rfl (.tmp 30) (.const (.string ⟨#[48, 120, 48, 112, 43, 48]⟩)) rfl T3.out (by simp [Act.eval]) _ rfl 7 rfl (by decide) ?_; intro w4 t4; have T4 := hidden t4; clear t4)
      go_ret
      exact ⟨_, ⟨M, G, HM.out, HGG.out, .inl ⟨HB0.out, rfl⟩⟩, appE_end T4.out (by decide)⟩
attribute [local go_sem] make24
/-- A call that answers the text of these bytes. -/
def TextX (w : World) (D : List UInt8 → Prop) (e : Ending) (w' : World) : Prop := ∃ tl : List UInt8, D tl ∧ e = .returned (.string ⟨tl.toArray⟩) ∧ tl.length ≤ 100 ∧ ∃ x, w' = ext w x
set_option maxRecDepth 100000 in
theorem text_eq {W E F : Nat} {MM FM EM HB BI EI XI : Int} {H PD : Nat} (fc : Fc W E F MM FM EM HB BI EI XI H PD) (p : Nat) (b : Bool) (c165 : ∀ w, Calls Tryz.prog 165 #[.agg #[.int .u64 W, .int .u64 E, .int .u64 F], .int .u64 p] w fun e w' => e = .returned (.bool b) ∧ ∃ x, w' = ext w x) (w : World)
    (htab : Lib.TabIs Tryz.prog w "internal/strconv.uint64pow10" .u64 Lib.pow10Tab) : Calls Tryz.prog 16 #[.agg #[.int .u64 W, .int .u64 E, .int .u64 F], .int .u64 p] w (TextX w (AppD b p F MM FM EM HB BI EI H PD)) := by
  have HT := hidden (Lib.tabBelow_of_tabIs htab)
  clear htab
  go_enter Tryz.func16, Tryz.ntmps16
  go_upto_region 1 with (fail)
  have A : Hid (Calls Tryz.prog 82 #[.agg #[.int .u64 W, .int .u64 E, .int .u64 F], .slice (some ⟨w.heap.size + 1, 0, none⟩) 0 24, .int .u64 p] ((w.alloc (.cells #[.int .u64 W, .int .u64 E, .int .u64 F] 35)).alloc (.cells (madeCells #[.int .u8 0] 24) 5)).drew (AppX w.heap.size ((w.alloc (.cells #[.int .u64 W, .int .u64 E, .int .u64 F] 35)).alloc (.cells (madeCells #[.int .u8 0] 24) 5)).drew (AppD b p F MM FM EM HB BI EI H PD))) := hidden (by
    have g1 : Gr w.heap.size w (w.alloc (.cells #[.int .u64 W, .int .u64 E, .int .u64 F] 35)) := (Gr.refl w).alloc _
    have r1 := (made24 _ w.heap.size g1.2).grow (w' := ((w.alloc (.cells #[.int .u64 W, .int .u64 E, .int .u64 F] 35)).alloc (.cells (madeCells #[.int .u8 0] 24) 5)).drew) ⟨rfl, rfl, rfl, Nat.le_refl _, fun _ _ _ => rfl⟩
    have := appendText_eq fc w.heap.size _ p _ b c165 r1 ((g1.alloc _).drew).2 (HT.out.on ((g1.alloc _).drew).1)
    simpa using this)
  clear fc HT c165
  go_region_with (go_at_call 82; (with_reducible refine A.out.mono ?_); rintro _ w3 ⟨l, hD, v, n, rfl, ho, hn, hg⟩; have HD := hidden hD; have hcv := own_string ho; have hln : Hid (l.length ≤ 100) := hidden (by have := ho.1; simp [byteCells] at this; omega); have HG := hidden hg; clear ho hn hg hD)
  all_goals
    go_wp2_with (fail)
    go_ret
    exact ⟨l, HD.out, rfl, hln.out, Gr.of ((Gr.step (by repeat (first | exact Gr.refl _ | refine Gr.alloc ?_ _ | refine Gr.ext ?_ _ | refine Gr.drew ?_)) HG.out (Nat.le_refl _)))⟩
end Go.Proofs.Qxb6500680aGreatDoor
