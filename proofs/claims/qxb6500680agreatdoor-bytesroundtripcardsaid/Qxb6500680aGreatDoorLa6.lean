import Derived.Test.Qxb6500680aGreatDoorLh
import Derived.Test.Qxb6500680aGreatDoorPats
namespace Go.Proofs.Qxb6500680aGreatDoor
open Go.RowKit Go.BigFrame
open Go.Lib (byteCells byteCells_append strCells_eq)
set_option linter.unusedSimpArgs false
attribute [local go_sem] ext_cell_if ext_frozen_if alloc_cell_if alloc_frozen_if ext_size ext_ext
theorem own_byte {w : World} {B m : Nat} {v : Value} {l : List UInt8} (h : w.ownsRow B 5 1 v m (byteCells l)) (hm : 0 < m) : l.length = m ∧ ∃ g cap, v = .slice (some ⟨g, 0, none⟩) m cap ∧ B ≤ g ∧ m ≤ cap ∧ Rb w g 0 l := by
  obtain ⟨hl, h⟩ := h
  have hlen : l.length = m := by simpa [byteCells] using hl
  refine ⟨hlen, ?_⟩
  rcases h with ⟨_, rfl⟩ | ⟨g, cap, cur, rfl, hB, hc, hmc, _, _, ht⟩
  · omega
  · refine ⟨g, cap, rfl, hB, hmc, lt_of_cells hc, fun i p hp => ?_⟩
    rw [cell_of_cells hc]
    have hi : i < m := by rw [← hlen]; exact (List.getElem?_eq_some_iff.1 hp).1
    have h1 : (cur.toList.take (m * 1))[i]? = (byteCells l)[i]? := by rw [ht]
    rw [List.getElem?_take_of_lt (by omega)] at h1
    simp [byteCells, hp] at h1
    simpa using h1
/-- A width's numbers: the format, the bytes, the mask. -/
structure Wd (W K : Nat) (E F M : Int) : Prop where
  wk : Wk W K
  fmt : ∀ w, Glob w → Calls Tryz.prog 15 #[.int .i64 W] w fun r w' => r = .returned (.agg #[.int .u64 W, .int .u64 E, .int .u64 F]) ∧ ∃ x, w' = ext w x
  of : ∀ w, Calls Tryz.prog 19 #[.int .i64 W] w fun r w' => r = .returned (.agg #[.int .i64 W, .int .i64 E, .int .i64 F]) ∧ ∃ x, w' = ext w x
  msk : ∀ w, Calls Tryz.prog 20 #[.agg #[.int .u64 W, .int .u64 E, .int .u64 F]] w fun r w' => r = .returned (.int .u64 M) ∧ ∃ x, w' = ext w x
  pat : ∀ A : Int, InR .u64 A → ∃ p : Nat, bits .and .u64 A M = p ∧ p < 256 ^ K ∧ p ≤ 18446744073709551615
theorem wd_of (W : Int) (h : W = 32 ∨ W = 64) : ∃ (W' K : Nat) (E F M : Int), W = W' ∧ 0 < K ∧ Wd W' K E F M := by
  rcases h with rfl | rfl
  · refine ⟨32, 4, 8, 23, 4294967295, rfl, by decide, .inl ⟨rfl, rfl⟩, format32, of32, patMask32, fun A hA => ?_⟩
    have h := and32 A hA
    exact ⟨(bits .and .u64 A 4294967295).toNat, by omega, by omega, by omega⟩
  · refine ⟨64, 8, 11, 52, 18446744073709551615, rfl, by decide, .inr ⟨rfl, rfl⟩, format64, of64, patMask64, fun A hA => ?_⟩
    have h := and64 A
    exact ⟨(bits .and .u64 A 18446744073709551615).toNat, by omega, by omega, by omega⟩

/-- The places of a run of BytesRoundTrip. -/
structure Bp (ob fb mb W : Nat) (E F : Int) (c : Array Value) (w0 w : World) : Prop where
  o : w.heap[ob]? = some (.cells c 29)
  f : w.heap[fb]? = some (.cells #[.int .u64 W, .int .u64 E, .int .u64 F] 35)
  m : w.heap[mb]? = some (.cells #[.int .i64 W, .int .i64 E, .int .i64 F] 44)
  gr : Gr w0.heap.size w0 w
theorem Bp.grown {ob fb mb W : Nat} {E F : Int} {c : Array Value} {w0 w w' : World} {row : Option Nat} (h : Bp ob fb mb W E F c w0 w) (hg : w.grownBy w' row) (h1 : some ob ≠ row) (h2 : some fb ≠ row) (h3 : some mb ≠ row) (h4 : ∀ k, row = some k → w0.heap.size ≤ k) : Bp ob fb mb W E F c w0 w' :=
  ⟨(hg.block ob (lt_of_cells h.o) h1).trans h.o, (hg.block fb (lt_of_cells h.f) h2).trans h.f, (hg.block mb (lt_of_cells h.m) h3).trans h.m, h.gr.grown hg h4⟩
theorem Bp.ext {ob fb mb W : Nat} {E F : Int} {c : Array Value} {w0 w : World} (h : Bp ob fb mb W E F c w0 w) (x : Nat → Array Obj × Nat) : Bp ob fb mb W E F c w0 (ext w x) := ⟨blk_ext h.o, blk_ext h.f, blk_ext h.m, h.gr.ext x⟩
theorem Bp.alloc {ob fb mb W : Nat} {E F : Int} {c : Array Value} {w0 w : World} (h : Bp ob fb mb W E F c w0 w) (x : Obj) : Bp ob fb mb W E F c w0 (w.alloc x) := ⟨blk_alloc h.o, blk_alloc h.f, blk_alloc h.m, h.gr.alloc x⟩
theorem Bp.drew {ob fb mb W : Nat} {E F : Int} {c : Array Value} {w0 w : World} (h : Bp ob fb mb W E F c w0 w) : Bp ob fb mb W E F c w0 w.drew := ⟨h.o, h.f, h.m, h.gr.drew⟩
/-- A row of words, or of bytes, turns: the places stand. -/
theorem Bp.to {ob fb mb W : Nat} {E F : Int} {c : Array Value} {w0 w w' : World} {v v' : Value} {B e s n : Nat} {xs : List Value} (h : Bp ob fb mb W E F c w0 w) (hown : w.ownsRow B e s v n xs) (he : e = 5 ∨ e = 27) (hB : w0.heap.size ≤ B) (ht : To w v w' v') : Bp ob fb mb W E F c w0 w' := by
  refine h.grown ht.1 (own_not hown h.o ?_) (own_not hown h.f ?_) (own_not hown h.m ?_) (fun k hk => Nat.le_trans hB (ownBlock_ge hown k hk))
  all_goals rcases he with rfl | rfl <;> decide
/-- A row that another row's turn leaves alone. -/
theorem own_keep {w w' : World} {v v' u : Value} {B B' e e' n n' : Nat} {xs ys : List Value} (h : w.ownsRow B e 1 u n xs) (hown : w.ownsRow B' e' 1 v n' ys) (hne : e ≠ e') (ht : To w v w' v') : w'.ownsRow B e 1 u n xs :=
  own_move h fun g hg => ht.1.block g (World.ownsRow.lt h g hg).2 (own_apart h hown hne g hg)
theorem Rb.at {w : World} {g off : Nat} {l : List UInt8} (h : Rb w g off l) : ∀ j (hj : j < l.length), w.cell? ((⟨g, off, none⟩ : Addr).add j) = some (.int .u8 (l[j].toNat : Int)) := fun j hj => by
  rw [← h.2 j l[j] (by simp)]
  congr 1
  simp only [Addr.add]
  split <;> simp_all
theorem Gr.none {w w' : World} (h : Gr w.heap.size w w') : w.grownBy w' none := ⟨h.1.os, h.1.tape, h.1.output, h.1.size, fun k hk _ => h.1.block k hk⟩
theorem rem_any (N : Int) (K : Nat) (hK : 0 < K) (w : World) : (binOp .rem 27 (.int .u64 (IntKind.u64.wrap N)) (.int .u64 (K : Int))).run Tryz.prog w = .ok (.int .u64 ((IntKind.u64.wrap N).tmod (K : Int))) w := by
  have h1 := wr_bd N
  have h2 := Int.tmod_lt_of_pos (IntKind.u64.wrap N) (b := (K : Int)) (by omega)
  have h3 := Int.tmod_nonneg (K : Int) h1.1
  have hk : ¬ K = 0 := by omega
  simp [go_sem, hk]
theorem rem_at (N : Int) (K r : Nat) (hK : 0 < K) (hr : (IntKind.u64.wrap N).tmod (K : Int) = (r : Int)) (w : World) : (binOp .rem 27 (.int .u64 (IntKind.u64.wrap N)) (.int .u64 (K : Int))).run Tryz.prog w = .ok (.int .u64 (r : Int)) w := by rw [← hr]; exact rem_any N K hK w
theorem cv_at (r : Nat) (hr : r < 8) (w : World) : (convert 27 3 (.int .u64 (r : Int))).run Tryz.prog w = .ok (.int .i64 (r : Int)) w := by
  have h : IntKind.i64.wrap (r : Int) = r := by rw [IntKind.wrap_i64]; omega
  simp [go_sem, h]
theorem sl_at (g c K r : Nat) (h1 : r ≤ c) (w : World) : (Instr.slice 47 (.slice (some ⟨g, 0, none⟩) K c) none (some (.int .i64 (r : Int))) none).run Tryz.prog w = .ok (.slice (some ⟨g, 0, none⟩) r c) w := by
  simp [go_sem, h1]
def MbOK (K : Nat) (l : List UInt8) (w : World) (e : Ending) (w' : World) : Prop := ∃ v, e = .returned v ∧ w'.ownsRow w.heap.size 5 1 v K (byteCells l) ∧ ∃ x, w' = ext w x
theorem mbytes_ext (W K : Nat) (hW : Wk W K) (E F : Int) (p : Nat) (hp : p ≤ 18446744073709551615) (w : World) : Calls Tryz.prog 21 #[.agg #[.int .i64 W, .int .i64 E, .int .i64 F], .int .u64 p] w (MbOK K (leb p K) w) :=
  (mbytes_any W K hW E F p hp w).mono fun _ _ ⟨v, he, ho, hg⟩ => ⟨v, he, ho, Gr.of hg⟩
theorem step_putB {ops : Array Oper} {o : Oper} {a : Act} {w : World} {K : Act → World → Prop} {Q : Exit → Act → World → Prop} {X : Prop} (hgd : o.guard = none) (s x : Operand)
    (ho : o.op = .call { callee := .builtin .append, args := #[s, x], argTypes := #[47, 47] })
    {B n : Nat} {l : List UInt8} {v : Value} (hT : w.ownsRow B 5 1 v n (byteCells l)) (hs : a.eval s = v) (ad : Addr) (m c : Nat) (l2 : List UInt8) (hx : a.eval x = .slice (some ad) m c) (hl : l2.length = m) (hc : ∀ j (hj : j < l2.length), w.cell? (ad.add j) = some (.int .u8 (l2[j].toNat : Int))) (hn : n + m ≤ 2000000) (hB : B ≤ w.heap.size)
    (h : ∀ v' w', w'.ownsRow B 5 1 v' (n + m) (byteCells (l ++ l2)) → To w v w' v' → K (a.put o.dst v') w') : if Region.wanted o (yielded ops a.tmps) = true then Oper.wp Tryz.prog o a w K Q else X := by
  obtain ⟨i0, hi, hz0, hz1, hz2⟩ := info_parts Tryz.info5
  refine step_append_at hgd s x 47 ho B 5 i0 (.int .u8 0) 1 1 Tryz.underlying47 hi hz0 hz1 hz2 rfl (by decide) v n (byteCells l) hs hT ad m c (byteCells l2) hx (by simp [byteCells, hl]) ?_ ?_ (by unfold maxLen; omega) (by omega) hB fun v' w' h2 h3 h4 => h v' w' (by rw [byteCells_append]; exact h2) ⟨h3, h4⟩
  · intro j u hj
    have hj' : j < l2.length := by
      have := (List.getElem?_eq_some_iff.1 hj).1
      simpa [byteCells] using this
    rw [hc j hj', ← hj]
    simp [byteCells, hj']
  · intro u hu
    simp [byteCells] at hu
    obtain ⟨b, _, rfl⟩ := hu
    rfl
theorem step_unp {ops : Array Oper} {o : Oper} {a : Act} {w : World} {K : Act → World → Prop} {Q : Exit → Act → World → Prop} {X : Prop} (hgd : o.guard = none)
    (hop : o.op = .call { callee := .value (.func 24), args := #[.tmp 93, .const (.slice none 0 0), .tmp 96], argTypes := #[35, 46, 47] }) {f v : Value} (hf : a.eval (.tmp 93) = f) (hv : a.eval (.tmp 96) = v) {R : Ending → World → Prop} (hc : Calls Tryz.prog 24 #[f, .slice none 0 0, v] w R)
    (h : ∀ e w', R e w' → ∃ u, e = .returned u ∧ K (a.put o.dst u) w') : if Region.wanted o (yielded ops a.tmps) = true then Oper.wp Tryz.prog o a w K Q else X := by
  rw [if_pos (by simp [Region.wanted, hgd])]
  simp only [Act.eval] at hf hv
  unfold Oper.wp
  simp only [execOp, hop]
  go_simp
  subst hf
  subst hv
  refine hc.mono ?_
  intro e w' hr
  obtain ⟨u, rfl, hk⟩ := h e w' hr
  exact hk
theorem Rb.string {w : World} {g off n cap : Nat} {l : List UInt8} (h : Rb w g off l) (hl : l.length = n) : (convert 47 9 (.slice (some ⟨g, off, none⟩) n cap)).run Tryz.prog w = .ok (.string ⟨l.toArray⟩) w := by
  subst hl
  exact run_convert_bytes_back w 47 9 5 ⟨g, off, none⟩ cap l Tryz.underlying47 Tryz.underlying5 Tryz.underlying9 h.at
/-- The patterns so far, and their bytes. -/
def Two (B K m : Nat) (ps : List Nat) (v u : Value) (w : World) : Prop := ps.length = m ∧ (∀ p ∈ ps, p < 256 ^ K ∧ p ≤ 18446744073709551615) ∧ w.ownsRow B 27 1 v m (wordCells ps) ∧ w.ownsRow B 5 1 u (m * K) (byteCells (packs ps K))
theorem Two.grow {B K m : Nat} {ps : List Nat} {v u : Value} {w w' : World} (h : Two B K m ps v u w) (hg : w.grownBy w' none) : Two B K m ps v u w' := ⟨h.1, h.2.1, grow_own h.2.2.1 hg, grow_own h.2.2.2 hg⟩
set_option maxRecDepth 100000 in
set_option maxHeartbeats 8000000 in
theorem law6 (sv : Value) (n : Nat) (w : World) (hs : Scr w sv n) (hn : n ≤ 9223372036854775807) (hw : Gw w) (ht : Lib.TabIs Tryz.prog w "internal/strconv.uint64pow10" .u64 Lib.pow10Tab) : Calls Tryz.prog 6 #[sv] w fun e w' => e = .returned (.bool true) ∧ ∃ x, w' = ext w x := by
  have RS := hidden (fun (h : n ≤ 65536) => resolve_any play_any sv n w hs h hw ht)
  have HGL := hidden (fun (w1 : World) (g : Gr w.heap.size w w1) => (Gw.gr w w1 hw g).glob)
  obtain ⟨sa, sc, rfl, hs⟩ := hs
  have SM := hidden (small_any sa n sc w hn)
  clear hs hw ht
  go_enter Tryz.func6, Tryz.ntmps6
  by_cases h : n ≤ 65536
  · have RS := hidden (RS.out h)
    go_upto_if 27 with (first | (go_at_call 10; (with_reducible refine SM.out.mono ?_); rintro _ w ⟨rfl, rfl⟩) | (go_at_call 11; (with_reducible refine RS.out.mono ?_); rintro _ w1 ⟨ob, c, rfl, hco, hall, hg⟩))
    have HCO := hidden hco
    have HALL := hidden hall
    have HG := hidden hg
    clear hco hall hg RS SM
    by_cases hn0 : n = 0
    · subst hn0
      go_wp2_with (fail)
      go_ret
      exact ⟨rfl, Gr.of HG.out⟩
    have en : ((n : Int) == 0) = false := by rw [beq_eq_false_iff_ne]; omega
    obtain ⟨k0, W0, md0, ch0, A0, B0, N0, z0, z1, z2, z3, z4, z5, z6, i1, i2, i3, i4, i5, i6⟩ := HALL.out 0 (by omega)
    obtain ⟨W, K, E, F, M, rfl, hK0, wd⟩ := wd_of W0 i2
    have WD := hidden wd
    have FMT := hidden (fun (w2 : World) (g : Gr w.heap.size w w2) => wd.fmt w2 (HGL.out w2 g))
    have OFF := hidden wd.of
    have Z : Hid (∃ q : Nat, (q : Int) = B0 ∧ q ≤ 18446744073709551615) := hidden ⟨B0.toNat, by have := u64r i5; omega, by have := u64r i5; omega⟩
    have o1 : w1.cell? ⟨ob, 1, none⟩ = some (.int .i64 W) := (cell_of_cells HCO.out 1).trans z1
    have lo := lt_of_cells HCO.out
    clear wd i1 i2 i3 i4
    go_upto_region 8 with (first | (go_at_call 15; (with_reducible refine (FMT.out _ (by repeat (first | with_reducible exact HG.out | with_reducible refine Gr.ext ?_ _ | with_reducible refine Gr.alloc ?_ _))).mono ?_); rintro _ _ ⟨rfl, x1, rfl⟩) | (go_at_call 19; (with_reducible refine (OFF.out _).mono ?_); rintro _ _ ⟨rfl, x2, rfl⟩))
    obtain ⟨fb, hfb⟩ : ∃ fb, fb = w1.heap.size + (cat x1 x2 0).fst.size := ⟨_, rfl⟩
    obtain ⟨mb, hmb⟩ : ∃ mb, mb = fb + 1 := ⟨_, rfl⟩
    refine wp_gen (fun w2 => Bp ob fb mb W E F c w w2) ?_ ?_
    · have e1 : (ext w1 (cat x1 x2)).heap.size = w1.heap.size + (cat x1 x2 0).fst.size := ext_size _ _
      have e2 : ((ext w1 (cat x1 x2)).alloc (.cells #[.int .u64 W, .int .u64 E, .int .u64 F] 35)).heap.size = w1.heap.size + (cat x1 x2 0).fst.size + 1 := by rw [← e1]; simp
      refine ⟨blk_alloc (blk_alloc (blk_ext HCO.out)), ?_, ?_, ((HG.out.ext _).alloc _).alloc _⟩
      · rw [hfb, ← e1]
        exact blk_alloc (heap_new _ _)
      · rw [hmb, hfb, ← e2]
        exact heap_new _ _
    simp only [← hfb, ← hmb]
    clear hfb hmb o1 lo HCO HG FMT OFF
    intro w2 t2
    have T2 := hidden t2
    have HWB := hidden t2.gr.2
    clear t2
    go_wp2_with (fail)
    go_loopw [7, 8, 10, 12, 38] (fun s7 s8 _ _ s38 wi => ∃ (i : Nat) (ps : List Nat), s38 = .int .i64 i ∧ i ≤ n ∧ Two w.heap.size K (2 * i) ps s7 s8 wi ∧ Bp ob fb mb W E F c w wi) (fun _ _ _ _ s38 _ => (n - intOf s38).toNat)
    case atStart => exact ⟨0, [], rfl, by omega, ⟨rfl, fun p hp => by simp at hp, ⟨rfl, .inl ⟨rfl, rfl⟩⟩, ⟨by simp [packs, byteCells], .inl ⟨rfl, by simp⟩⟩⟩, T2.out⟩
    case round =>
      obtain ⟨i, ps, rfl, hi, htw, hbp⟩ := hrel
      clear T2 HWB w2
      have HTW := hidden htw
      have HBP := hidden hbp
      clear htw hbp
      by_cases hin : i < n
      · obtain ⟨k, W1, md, ch, A, B, N, e0, e1, e2, e3, e4, e5, e6, j1, j2, j3, j4, j5, j6⟩ := HALL.out i hin
        have hco := HBP.out.o
        have o0 : wr.cell? ⟨ob, i * 7, none⟩ = some (.int .u8 k) := (cell_of_cells hco (i * 7)).trans e0
        have o1 : wr.cell? ⟨ob, i * 7 + 1, none⟩ = some (.int .i64 W1) := (cell_of_cells hco (i * 7 + 1)).trans e1
        have o2 : wr.cell? ⟨ob, i * 7 + 2, none⟩ = some (.int .u8 md) := (cell_of_cells hco (i * 7 + 2)).trans e2
        have o3 : wr.cell? ⟨ob, i * 7 + 3, none⟩ = some (.bool ch) := (cell_of_cells hco (i * 7 + 3)).trans e3
        have o4 : wr.cell? ⟨ob, i * 7 + 4, none⟩ = some (.int .u64 A) := (cell_of_cells hco (i * 7 + 4)).trans e4
        have o5 : wr.cell? ⟨ob, i * 7 + 5, none⟩ = some (.int .u64 B) := (cell_of_cells hco (i * 7 + 5)).trans e5
        have o6 : wr.cell? ⟨ob, i * 7 + 6, none⟩ = some (.int .i64 N) := (cell_of_cells hco (i * 7 + 6)).trans e6
        have lo := lt_of_cells hco
        obtain ⟨p, hp, hp1, hp2⟩ := WD.out.pat A j4
        obtain ⟨q, hq, hq1, hq2⟩ := WD.out.pat B j5
        have MSK := hidden WD.out.msk
        obtain ⟨vb, hvb⟩ : ∃ vb, vb = wr.heap.size := ⟨_, rfl⟩
        clear hco e0 e1 e2 e3 e4 e5 e6 j1 j2 j3 j4 j5 j6
        have HP1 := hidden hp1
        have HP2 := hidden hp2
        have HQ1 := hidden hq1
        have HQ2 := hidden hq2
        clear hp1 hp2 hq1 hq2
        go_upto_region 13 with (fail)
        refine wp_gen (fun w3 => w3.heap[vb]? = some (.cells #[.int .u8 k, .int .i64 W1, .int .u8 md, .bool ch, .int .u64 A, .int .u64 B, .int .i64 N] 29) ∧ Two w.heap.size K (2 * i) ps u7 u8 w3 ∧ Bp ob fb mb W E F c w w3) ⟨by rw [hvb]; exact heap_new _ _, HTW.out.grow (grown_alloc _ _ _), HBP.out.alloc _⟩ ?_
        simp only [← hvb]
        clear hvb lo o0 o1 o2 o3 o4 o5 o6 HTW HBP
        rintro w3 ⟨b3, htw, hbp⟩
        have o4 : w3.cell? ⟨vb, 4, none⟩ = some (.int .u64 A) := cell_of_cells b3 4
        have o5 : w3.cell? ⟨vb, 5, none⟩ = some (.int .u64 B) := cell_of_cells b3 5
        have lv := lt_of_cells b3
        have f0 : w3.cell? ⟨fb, 0, none⟩ = some (.int .u64 W) := cell_of_cells hbp.f 0
        have f1 : w3.cell? ⟨fb, 1, none⟩ = some (.int .u64 E) := cell_of_cells hbp.f 1
        have f2 : w3.cell? ⟨fb, 2, none⟩ = some (.int .u64 F) := cell_of_cells hbp.f 2
        have lf := lt_of_cells hbp.f
        have HTW := hidden htw
        have HBP := hidden hbp
        clear b3 htw hbp
        refine wp_region_ext (by kernel_rfl) (by kernel_rfl) ?_
        repeat (go_big_quiet_step ((go_at_call 20; first | with_reducible exact Calls_ext (MSK.out _) | with_reducible exact Calls_ext2 (MSK.out _))))
        refine wpQuiet_nil ?_
        rintro w4 ⟨x4, rfl⟩
        try simp only [hp, hq]
        clear hp hq o4 o5 lv f0 f1 f2 lf
        have i0 : ∀ w, (Instr.index 30 (.agg #[.int .u64 (p : Int), .int .u64 (q : Int)]) (.int .i64 0)).run Tryz.prog w = .ok (.int .u64 (p : Int)) w := fun w => by kernel_rfl
        have i1 : ∀ w, (Instr.index 30 (.agg #[.int .u64 (p : Int), .int .u64 (q : Int)]) (.int .i64 1)).run Tryz.prog w = .ok (.int .u64 (q : Int)) w := fun w => by kernel_rfl
        have hK8 : K ≤ 8 := by rcases WD.out.wk with ⟨_, h⟩ | ⟨_, h⟩ <;> omega
        go_wp2_with (fail)
        go_loopw [7, 8, 12, 53] (fun s7 s8 _ s53 wi => ∃ j : Nat, s53 = .int .i64 j ∧ j ≤ 2 ∧ Two w.heap.size K (2 * i + j) (ps ++ [p, q].take j) s7 s8 wi ∧ Bp ob fb mb W E F c w wi) (fun _ _ _ s53 _ => (2 - intOf s53).toNat)
        case atStart => exact ⟨0, rfl, by omega, by simpa using HTW.out.grow (grown_ext _ _ _), HBP.out.ext _⟩
        case round =>
          obtain ⟨j, rfl, hj, htw, hbp⟩ := hrel
          clear HTW HBP
          rcases j with _ | _ | _ | j
          · skip
            have hjk : (2 * i + 0) * K ≤ 1048576 := by have := Nat.mul_le_mul (show 2 * i + 0 ≤ 131072 by omega) hK8; omega
            have TWj : Hid (Two w.heap.size K (2 * i + 0) ps u7 u8 wr) := hidden (by simpa using htw)
            have BPj := hidden hbp
            have HWj := hidden hbp.gr.2
            clear htw hbp
            go_upto_region 17 with (at_builtin; refine putW1 rfl (.tmp 56) (.tmp 58) rfl TWj.out.2.2.1 (by simp [Act.eval]) p (by simp [Act.eval]) (by omega) HWj.out ?_; intro v' w5 h2 h3; have H2 := hidden h2; have H3 := hidden h3; clear h2 h3)
            have bp5 := BPj.out.to TWj.out.2.2.1 (.inr rfl) (Nat.le_refl _) H3.out
            have wa5 := own_keep TWj.out.2.2.2 TWj.out.2.2.1 (by decide) H3.out
            have g0 : w5.cell? ⟨mb, 0, none⟩ = some (.int .i64 W) := cell_of_cells bp5.m 0
            have g1 : w5.cell? ⟨mb, 1, none⟩ = some (.int .i64 E) := cell_of_cells bp5.m 1
            have g2 : w5.cell? ⟨mb, 2, none⟩ = some (.int .i64 F) := cell_of_cells bp5.m 2
            have lm := lt_of_cells bp5.m
            have MB := hidden (mbytes_any W K WD.out.wk E F p HP2.out w5)
            have BP5 := hidden bp5
            have WA5 := hidden wa5
            clear bp5 wa5
            go_upto_region 18 with (first | (go_at_call 21; (with_reducible refine MB.out.mono ?_); rintro _ w6 ⟨bv, rfl, hbo, hbg⟩; obtain ⟨hlb, gb, cb, rfl, hgb, hcb, hrb⟩ := own_byte hbo hK0; have WA6 := hidden (grow_own WA5.out hbg.none); have BP6 := hidden (BP5.out.grown hbg.none (by simp) (by simp) (by simp) (by simp)); have HRB := hidden hrb; have HW6 := hidden BP6.out.gr.2; have H26 := hidden (grow_own H2.out hbg.none); clear hbo hbg hrb hgb) | (at_builtin; refine putB rfl (.tmp 60) (.tmp 63) rfl WA6.out (by simp [Act.eval]) ⟨gb, 0, none⟩ K cb (leb p K) (by simp [Act.eval]) hlb HRB.out.at (by omega) HW6.out ?_; intro v7 w7 h2 h3; have H27 := hidden h2; have H37 := hidden h3; clear h2 h3))
            have bp7 := BP6.out.to WA6.out (.inl rfl) (Nat.le_refl _) H37.out
            have bl7 := own_keep H26.out WA6.out (by decide) H37.out
            have tw7 : Two w.heap.size K (2 * i + 0 + 1) (ps ++ [p]) v' v7 w7 := by
              refine ⟨by rw [List.length_append, TWj.out.1]; rfl, fun x hx => ?_, bl7, ?_⟩
              · rcases List.mem_append.1 hx with h | h
                · exact TWj.out.2.1 x h
                · simp at h
                  subst h
                  exact ⟨HP1.out, HP2.out⟩
              · have e2 : packs (ps ++ [p]) K = packs ps K ++ leb p K := by simp [packs]
                rw [e2, Nat.add_mul, Nat.one_mul]
                exact H27.out
            have TW7 := hidden tw7
            have BP7 := hidden bp7
            clear tw7 bp7 bl7 g0 g1 g2 lm
            go_wp2_with (fail)
            exact ⟨⟨1, rfl, by omega, by simpa [Nat.add_assoc] using TW7.out, BP7.out⟩, by simp [intOf]⟩
          · skip
            have hjk : (2 * i + 1) * K ≤ 1048576 := by have := Nat.mul_le_mul (show 2 * i + 1 ≤ 131072 by omega) hK8; omega
            have TWj : Hid (Two w.heap.size K (2 * i + 1) (ps ++ [p]) u7 u8 wr) := hidden (by simpa using htw)
            have BPj := hidden hbp
            have HWj := hidden hbp.gr.2
            clear htw hbp
            go_upto_region 17 with (at_builtin; refine putW1 rfl (.tmp 56) (.tmp 58) rfl TWj.out.2.2.1 (by simp [Act.eval]) q (by simp [Act.eval]) (by omega) HWj.out ?_; intro v' w5 h2 h3; have H2 := hidden h2; have H3 := hidden h3; clear h2 h3)
            have bp5 := BPj.out.to TWj.out.2.2.1 (.inr rfl) (Nat.le_refl _) H3.out
            have wa5 := own_keep TWj.out.2.2.2 TWj.out.2.2.1 (by decide) H3.out
            have g0 : w5.cell? ⟨mb, 0, none⟩ = some (.int .i64 W) := cell_of_cells bp5.m 0
            have g1 : w5.cell? ⟨mb, 1, none⟩ = some (.int .i64 E) := cell_of_cells bp5.m 1
            have g2 : w5.cell? ⟨mb, 2, none⟩ = some (.int .i64 F) := cell_of_cells bp5.m 2
            have lm := lt_of_cells bp5.m
            have MB := hidden (mbytes_any W K WD.out.wk E F q HQ2.out w5)
            have BP5 := hidden bp5
            have WA5 := hidden wa5
            clear bp5 wa5
            go_upto_region 18 with (first | (go_at_call 21; (with_reducible refine MB.out.mono ?_); rintro _ w6 ⟨bv, rfl, hbo, hbg⟩; obtain ⟨hlb, gb, cb, rfl, hgb, hcb, hrb⟩ := own_byte hbo hK0; have WA6 := hidden (grow_own WA5.out hbg.none); have BP6 := hidden (BP5.out.grown hbg.none (by simp) (by simp) (by simp) (by simp)); have HRB := hidden hrb; have HW6 := hidden BP6.out.gr.2; have H26 := hidden (grow_own H2.out hbg.none); clear hbo hbg hrb hgb) | (at_builtin; refine putB rfl (.tmp 60) (.tmp 63) rfl WA6.out (by simp [Act.eval]) ⟨gb, 0, none⟩ K cb (leb q K) (by simp [Act.eval]) hlb HRB.out.at (by omega) HW6.out ?_; intro v7 w7 h2 h3; have H27 := hidden h2; have H37 := hidden h3; clear h2 h3))
            have bp7 := BP6.out.to WA6.out (.inl rfl) (Nat.le_refl _) H37.out
            have bl7 := own_keep H26.out WA6.out (by decide) H37.out
            have tw7 : Two w.heap.size K (2 * i + 1 + 1) ((ps ++ [p]) ++ [q]) v' v7 w7 := by
              refine ⟨by rw [List.length_append, TWj.out.1]; rfl, fun x hx => ?_, bl7, ?_⟩
              · rcases List.mem_append.1 hx with h | h
                · exact TWj.out.2.1 x h
                · simp at h
                  subst h
                  exact ⟨HQ1.out, HQ2.out⟩
              · have e2 : packs ((ps ++ [p]) ++ [q]) K = packs (ps ++ [p]) K ++ leb q K := by simp [packs]
                rw [e2, Nat.add_mul, Nat.one_mul]
                exact H27.out
            have TW7 := hidden tw7
            have BP7 := hidden bp7
            clear tw7 bp7 bl7 g0 g1 g2 lm
            go_wp2_with (fail)
            exact ⟨⟨2, rfl, by omega, by simpa [Nat.add_assoc] using TW7.out, BP7.out⟩, by simp [intOf]⟩
          · have TWj := hidden htw
            have BPj := hidden hbp
            clear htw hbp
            go_wp2_with (fail)
            exact ⟨⟨i + 1, ps ++ [p, q], rfl, by omega, by simpa [Nat.mul_add] using TWj.out, BPj.out⟩, by simp [intOf]; omega⟩
          · omega
      · have e1 : i = n := by omega
        subst e1
        obtain ⟨hpl, hpb, hbl, hwa⟩ := HTW.out
        have PK := hidden (packLE_any W K WD.out.wk E F w.heap.size (2 * i) ps u7 (fun j p hp => (hpb p (List.mem_of_getElem? hp)).2) (by omega) (by omega) wr hbl)
        have bpr := HBP.out
        have f0 : wr.cell? ⟨fb, 0, none⟩ = some (.int .u64 W) := cell_of_cells bpr.f 0
        have g0 : wr.cell? ⟨mb, 0, none⟩ = some (.int .i64 W) := cell_of_cells bpr.m 0
        have f1 : wr.cell? ⟨fb, 1, none⟩ = some (.int .u64 E) := cell_of_cells bpr.f 1
        have g1 : wr.cell? ⟨mb, 1, none⟩ = some (.int .i64 E) := cell_of_cells bpr.m 1
        have f2 : wr.cell? ⟨fb, 2, none⟩ = some (.int .u64 F) := cell_of_cells bpr.f 2
        have g2 : wr.cell? ⟨mb, 2, none⟩ = some (.int .i64 F) := cell_of_cells bpr.m 2
        have lo := lt_of_cells bpr.o
        have lf := lt_of_cells bpr.f
        have lm := lt_of_cells bpr.m
        have HBL := hidden hbl
        have HWA := hidden hwa
        have HPB := hidden hpb
        clear hpb hbl hwa bpr
        go_upto_region 21 with (go_at_call 22; (with_reducible refine PK.out.mono ?_); rintro _ w5 ⟨pk, rfl, hpk, hg5⟩)
        clear f0 f1 f2 g0 g1 g2 lo lf lm
        have bp5 := HBP.out.grown hg5.none (by simp) (by simp) (by simp) (by simp)
        have HBL5 := hidden (grow_own HBL.out hg5.none)
        have c1 := own_string hpk
        have c2 := own_string (grow_own HWA.out hg5.none)
        have HPK := hidden hpk
        have BP5 := hidden bp5
        clear hpk bp5 hg5
        go_upto_region 23 with (fail)
        clear c1 c2
        have bpq := BP5.out
        have hK8 : K ≤ 8 := by rcases WD.out.wk with ⟨_, h⟩ | ⟨_, h⟩ <;> omega
        obtain ⟨q0, hq0, hq0b⟩ := Z.out
        subst hq0
        have hi0 : 0 < i := by omega
        have hkz : ((K : Int) == 0) = false := by rw [beq_eq_false_iff_ne]; omega
        have hkm : ¬ K = 0 := by omega
        have MB := hidden (fun (w' : World) => mbytes_ext W K WD.out.wk E F q0 hq0b w')
        have C23 := hidden (fbytes_any W K WD.out.wk E F)
        obtain ⟨r, hr, hrK⟩ : ∃ r : Nat, (IntKind.u64.wrap N0).tmod (K : Int) = r ∧ r < K := by
          have h1 := wr_bd N0
          have h2 := Int.tmod_lt_of_pos (IntKind.u64.wrap N0) (b := (K : Int)) (by omega)
          have h3 := Int.tmod_nonneg (K : Int) h1.1
          exact ⟨((IntKind.u64.wrap N0).tmod (K : Int)).toNat, by omega, by omega⟩
        have hwK : IntKind.u64.wrap (K : Int) = K := by rw [IntKind.wrap_u64]; omega
        have hrm := rem_at N0 K r hK0 hr
        have hrv := cv_at r (by omega)
        have y5 : w5.cell? ⟨ob, 5, none⟩ = some (.int .u64 (q0 : Int)) := (cell_of_cells bpq.o 5).trans z5
        have y6 : w5.cell? ⟨ob, 6, none⟩ = some (.int .i64 N0) := (cell_of_cells bpq.o 6).trans z6
        have f0 : w5.cell? ⟨fb, 0, none⟩ = some (.int .u64 W) := cell_of_cells bpq.f 0
        have g0 : w5.cell? ⟨mb, 0, none⟩ = some (.int .i64 W) := cell_of_cells bpq.m 0
        have f1 : w5.cell? ⟨fb, 1, none⟩ = some (.int .u64 E) := cell_of_cells bpq.f 1
        have g1 : w5.cell? ⟨mb, 1, none⟩ = some (.int .i64 E) := cell_of_cells bpq.m 1
        have f2 : w5.cell? ⟨fb, 2, none⟩ = some (.int .u64 F) := cell_of_cells bpq.f 2
        have g2 : w5.cell? ⟨mb, 2, none⟩ = some (.int .i64 F) := cell_of_cells bpq.m 2
        have lo := lt_of_cells bpq.o
        have lf := lt_of_cells bpq.f
        have lm := lt_of_cells bpq.m
        clear bpq
        go_region_held3 (fun w' => w'.cell? ⟨ob, 5, none⟩ = some (.int .u64 (q0 : Int)) ∧ w'.cell? ⟨ob, 6, none⟩ = some (.int .i64 N0) ∧ w'.cell? ⟨fb, 0, none⟩ = some (.int .u64 W) ∧ w'.cell? ⟨fb, 1, none⟩ = some (.int .u64 E) ∧ w'.cell? ⟨fb, 2, none⟩ = some (.int .u64 F) ∧ w'.cell? ⟨mb, 0, none⟩ = some (.int .i64 W) ∧ w'.cell? ⟨mb, 1, none⟩ = some (.int .i64 E) ∧ w'.cell? ⟨mb, 2, none⟩ = some (.int .i64 F)) ((repeat' apply And.intro) <;> (first | assumption | (simp [go_sem, y5, y6, f0, f1, f2, g0, g1, g2, lo, lf, lm, ↓IntWalk.iteOmega]; done)))
          (first | (go_at_call 21; (with_reducible refine (MB.out _).mono ?_); rintro _ _ ⟨bv, rfl, hbo, x6, rfl⟩; obtain ⟨hlb, ge, ce, rfl, hge, hce, hrb⟩ := own_byte hbo hK0; have HRB := hidden hrb; have hs4 := sl_at ge ce K r (by omega); clear hbo hrb) | (go_at_call 23; (with_reducible refine (C23.out _).mono ?_); rintro _ _ ⟨rfl, x7, rfl⟩))
        have HE := hidden hge
        go_upto_region 24 with (fail)
        clear hs4 y5 y6 f0 f1 f2 g0 g1 g2 lo lf lm
        have hpkl : ∀ k, pk.ownBlock = some k → k < w5.heap.size := fun k hk => (World.ownsRow.lt HPK.out k hk).2
        have HPKL := hidden hpkl
        clear hpkl
        obtain ⟨L2, hL2e⟩ : ∃ L2, L2 = (leb q0 K).take r := ⟨_, rfl⟩
        have hL2 : L2.length = r := by rw [hL2e, List.length_take, hlb]; omega
        refine wp_gen (fun w6 => Bp ob fb mb W E F c w w6 ∧ w6.ownsRow w.heap.size 5 1 pk (2 * i * K) (byteCells (packs ps K)) ∧ w6.ownsRow w.heap.size 27 1 u7 (2 * i) (wordCells ps) ∧ Rb w6 ge 0 L2) ?_ ?_
        · have hrb6 : Rb (ext w5.drew (cat x6 x7)) ge 0 (leb q0 K) := by
            rw [← ext_ext]
            exact HRB.out.gr (ext_below _ _) HRB.out.1
          refine ⟨BP5.out.drew.ext _, own_mono (grow_own HPK.out (grown_trans (w1 := w5.drew) ⟨rfl, rfl, rfl, Nat.le_refl _, fun _ _ _ => rfl⟩ (grown_ext _ _ _))) HBP.out.gr.2, grow_own HBL5.out (grown_trans (w1 := w5.drew) ⟨rfl, rfl, rfl, Nat.le_refl _, fun _ _ _ => rfl⟩ (grown_ext _ _ _)), hrb6.1, fun j b hb => hrb6.2 j b ?_⟩
          rw [hL2e] at hb
          rw [List.getElem?_take] at hb
          split at hb
          · exact hb
          · simp at hb
        clear hL2e
        rintro w6 ⟨bp6, pk6, bl6, rb6⟩
        have f0 : w6.cell? ⟨fb, 0, none⟩ = some (.int .u64 W) := cell_of_cells bp6.f 0
        have f1 : w6.cell? ⟨fb, 1, none⟩ = some (.int .u64 E) := cell_of_cells bp6.f 1
        have f2 : w6.cell? ⟨fb, 2, none⟩ = some (.int .u64 F) := cell_of_cells bp6.f 2
        have PKd := hidden (grow_own pk6 (w' := w6.drew) ⟨rfl, rfl, rfl, Nat.le_refl _, fun _ _ _ => rfl⟩)
        have RBd : Hid (Rb w6.drew ge 0 L2) := hidden rb6
        have HWd : Hid (w.heap.size ≤ w6.drew.heap.size) := hidden bp6.gr.2
        have BP6 := hidden bp6
        have BL6 := hidden bl6
        have hnK : 2 * i * K ≤ 1048576 := by have := Nat.mul_le_mul (show 2 * i ≤ 131072 by omega) hK8; omega
        have h0K : 0 < 2 * i * K := Nat.mul_pos (by omega) hK0
        clear bp6 pk6 bl6 rb6
        go_region_law (first
          | (refine step_putB rfl (.tmp 94) (.tmp 95) rfl PKd.out (by first | (simp [Act.eval, Act.put]; done) | rfl) ⟨ge, 0, none⟩ r ce L2 (by first | (simp [Act.eval, Act.put]; done) | rfl) hL2 RBd.out.at (by omega) HWd.out ?_; intro v7 w7 h2 h3; have bp7 := BP6.out.drew.to PKd.out (.inl rfl) (Nat.le_refl _) h3; obtain ⟨hl7, g7, c7, rfl, hg7, hc7, hr7⟩ := own_byte h2 (by omega); have f70 : w7.cell? ⟨fb, 0, none⟩ = some (.int .u64 W) := cell_of_cells bp7.f 0; have f71 : w7.cell? ⟨fb, 1, none⟩ = some (.int .u64 E) := cell_of_cells bp7.f 1; have f72 : w7.cell? ⟨fb, 2, none⟩ = some (.int .u64 F) := cell_of_cells bp7.f 2; have UNP := hidden (unpackLE_any W K WD.out.wk E F g7 0 c7 ps L2 (fun p hp => (HPB.out p hp).1) (by omega) (by omega) w7 hr7 (2 * i * K + r) (by rw [List.length_append, packs_len, hL2, hpl]) hc7); have H3 := hidden h3; have BP7 := hidden bp7; clear h2 h3 bp7 hr7)
          | (refine step_unp rfl rfl (f := .agg #[.int .u64 W, .int .u64 E, .int .u64 F]) (by simp [Act.eval]) (by simp [Act.eval]) UNP.out ?_; rintro e w8 ⟨bk, o8, c8, rfl, hbk, hrb8, hg8⟩; refine ⟨_, rfl, ?_⟩; have HBK := hidden hbk; have HR8 := hidden hrb8; have HG8 := hidden hg8; clear hbk hrb8 hg8))
        all_goals
          simp only [Act.put]
          have hg8 := HG8.out
          have rb7 : Rb w7 ge 0 L2 := ⟨Nat.lt_of_lt_of_le RBd.out.1 H3.out.1.size, fun j b hb => by
            have hne : some ge ≠ pk.ownBlock := fun e => by
              have h1 := HPKL.out ge e.symm
              have h2 : w5.heap.size ≤ ge := HE.out
              omega
            have := RBd.out.2 j b hb
            rw [← this]
            exact World.cell?_of_block (H3.out.1.block ge RBd.out.1 hne)⟩
          have rb8 : Rb w8 ge 0 L2 := rb7.gr hg8.1 rb7.1
          have bl8 := grow_own (own_keep (grow_own BL6.out (w' := w6.drew) ⟨rfl, rfl, rfl, Nat.le_refl _, fun _ _ _ => rfl⟩) PKd.out (by decide) H3.out) hg8.none
          have bp8 := BP7.out.grown hg8.none (by simp) (by simp) (by simp) (by simp)
          obtain ⟨hl8, gk, ck, rfl, hgk1, hgk2, hgk3⟩ := own_word HBK.out (by omega)
          obtain ⟨hl9, gw, cw, rfl, hgw1, hgw2, hgw3⟩ := own_word bl8 (by omega)
          have s1 := HR8.out.string (cap := c8) hL2
          have s2 := rb8.string (cap := ce) hL2
          have GK := hidden hgk3
          have GWW := hidden hgw3
          have BP8 := hidden bp8
          have LDS := hidden (loadLE_short W K WD.out.wk E F ge 0 r ce hrK)
          clear hgk3 hgw3 bp8 bl8 rb7 rb8 hg8 HBK hl8 hgk1 hgw1
          rw [hpl]
          go_upto_region 27 with (fail)
          clear s1 s2
          go_wp2_with (fail)
          go_loopw [17, 114] (fun _ s114 wi => ∃ j : Nat, j ≤ 2 * i ∧ s114 = .int .i64 j ∧ ∃ x, wi = ext w8 x) (fun _ s114 _ => ((2 * i : Nat) - intOf s114).toNat)
          case atStart => exact ⟨0, by omega, rfl, Gr.of (Gr.refl _)⟩
          case round =>
            obtain ⟨j, hj, rfl, x9, rfl⟩ := hrel
            by_cases hjn : j < 2 * i
            · obtain ⟨p, hp⟩ : ∃ p, ps[j]? = some p := ⟨ps[j], by simp [hpl, hjn]⟩
              have q1 := GK.out j p hp
              have q2 := GWW.out j p hp
              go_upto_region 30 with (fail)
              refine wp_region_ext (by kernel_rfl) (by kernel_rfl) ?_
              repeat (go_big_quiet_step ((fail)))
              refine wpQuiet_nil ?_
              rintro w10 ⟨x10, rfl⟩
              go_wp2_with (fail)
              exact ⟨⟨j + 1, by omega, by simp, _, rfl⟩, by simp [intOf]; omega⟩
            · have bp8 := BP8.out
              have f80 : w8.cell? ⟨fb, 0, none⟩ = some (.int .u64 W) := cell_of_cells bp8.f 0
              have f81 : w8.cell? ⟨fb, 1, none⟩ = some (.int .u64 E) := cell_of_cells bp8.f 1
              have f82 : w8.cell? ⟨fb, 2, none⟩ = some (.int .u64 F) := cell_of_cells bp8.f 2
              have lf8 := lt_of_cells bp8.f
              clear bp8
              go_wp2_with (go_at_call 25; (with_reducible refine (LDS.out _).mono ?_); rintro _ _ ⟨rfl, x11, rfl⟩)
              go_ret
              exact ⟨rfl, Gr.of (BP8.out.gr.ext _)⟩
  · go_wp2_with (go_at_call 10; (with_reducible refine SM.out.mono ?_); rintro _ w ⟨rfl, rfl⟩)
    go_ret
    exact ⟨rfl, Gr.of (Gr.refl _)⟩
end Go.Proofs.Qxb6500680aGreatDoor
