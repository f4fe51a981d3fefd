import Derived.Test.Qxb6500688aTree
namespace Go.Proofs.Qxb6500688a
open Go.RowKit Go.BigFrame
set_option linter.unusedSimpArgs false
attribute [local go_sem] ext_cell_if ext_frozen_if alloc_cell_if alloc_frozen_if ext_size ext_ext
theorem idx0 (x y : Value) (w : World) : (Instr.index 75 (.agg #[x, y]) (.int .i64 0)).run Try.prog w = .ok x w := by kernel_rfl
theorem idx1 (x y : Value) (w : World) : (Instr.index 75 (.agg #[x, y]) (.int .i64 1)).run Try.prog w = .ok y w := by kernel_rfl
/-- The numbers of the i first of l and r, summed up over the node's own. -/
def part (l : T) (g : G) (r : T) (i : Nat) : Array Value :=
  #[l.ptr, r.ptr, .int .i64 ((1 + max l.ht r.ht : Nat) : Int), .int .i64 ((1 + (if 1 ≤ i then l.sz else 0) + (if 2 ≤ i then r.sz else 0) : Nat) : Int), .int .i64 g.ga, .int .i64 g.gb, .int .i64 g.la, .int .i64 g.lb,
    .int .i64 (wrap64 ((g.ga + g.la) + (if 1 ≤ i then totA l.seq else 0) + (if 2 ≤ i then totA r.seq else 0))), .int .i64 (wrap64 ((g.gb + g.lb) + (if 1 ≤ i then totB l.seq else 0) + (if 2 ≤ i then totB r.seq else 0))),
    .int .i64 (wrap64 (g.la + (if 1 ≤ i then lenA l.seq else 0) + (if 2 ≤ i then lenA r.seq else 0))), .int .i64 (wrap64 (g.lb + (if 1 ≤ i then lenB l.seq else 0) + (if 2 ≤ i then lenB r.seq else 0)))]
theorem part_two (l : T) (g : G) (r : T) : part l g r 2 = row l g r := by
  simp only [part, row]
  rw [show (1 + (if 1 ≤ 2 then l.sz else 0) + (if 2 ≤ 2 then r.sz else 0) : Nat) = l.sz + 1 + r.sz by simp; omega]
  simp
  refine ⟨?_, ?_, ?_, ?_⟩ <;> congr 1 <;> omega
/-- A node's five sums. -/
def Nd (w : World) (cb s3 : Nat) (t8 t9 t10 t11 : Int) : Prop :=
  w.cell? ⟨cb, 3, none⟩ = some (.int .i64 s3) ∧ w.cell? ⟨cb, 8, none⟩ = some (.int .i64 t8) ∧ w.cell? ⟨cb, 9, none⟩ = some (.int .i64 t9) ∧ w.cell? ⟨cb, 10, none⟩ = some (.int .i64 t10) ∧ w.cell? ⟨cb, 11, none⟩ = some (.int .i64 t11)
theorem Nd.far {w : World} {cb s3 b : Nat} {t8 t9 t10 t11 : Int} (h : Nd w cb s3 t8 t9 t10 t11) (hne : ¬ cb = b) (i : Nat) (v : Value) : Nd (w.setCell ⟨b, i, none⟩ v).drew cb s3 t8 t9 t10 t11 := by
  obtain ⟨h1, h2, h3, h4, h5⟩ := h
  exact ⟨(cell_far hne _ _ _).trans h1, (cell_far hne _ _ _).trans h2, (cell_far hne _ _ _).trans h3, (cell_far hne _ _ _).trans h4, (cell_far hne _ _ _).trans h5⟩
theorem T.Rep.nd {w : World} {cb : Nat} {cl cr : T} {cg : G} (h : (T.node cb cl cg cr).Rep w) : Nd w cb (T.node cb cl cg cr).sz (wrap64 (totA (T.node cb cl cg cr).seq)) (wrap64 (totB (T.node cb cl cg cr).seq)) (wrap64 (lenA (T.node cb cl cg cr).seq)) (wrap64 (lenB (T.node cb cl cg cr).seq)) := by
  have d := cell_of_cells h.1
  rw [spA_node, spB_node, lnA_node, lnB_node]
  exact ⟨d 3, d 8, d 9, d 10, d 11⟩
set_option maxRecDepth 100000 in
set_option maxHeartbeats 1000000 in
theorem link_any (l r : T) (b : Nat) (g : G) (w : World) (hl : l.Rep w) (hr : r.Rep w) (hb : Raw w b g) (hbl : b ∉ l.blocks) (hbr : b ∉ r.blocks) (hsz : l.sz + r.sz ≤ 70000) :
    Calls Try.prog 42 #[l.ptr, .pointer (some ⟨b, 0, none⟩), r.ptr] w fun e w' => e = .returned (T.node b l g r).ptr ∧ (T.node b l g r).Rep w' ∧ Tw [b] w w' := by
  have HL := hidden hl
  have HR := hidden hr
  obtain ⟨x0, x1, x2, x3, x8, x9, x10, x11, hb⟩ := hb
  have HB := hidden hb
  have c0 := cell_of_cells hb 0
  have c1 := cell_of_cells hb 1
  have m0 := mark_of_cells hb
  simp at c0 c1
  obtain ⟨lo, hlp⟩ : ∃ lo, l.ptr = .pointer lo := by cases l <;> exact ⟨_, rfl⟩
  obtain ⟨ro, hrp⟩ : ∃ ro, r.ptr = .pointer ro := by cases r <;> exact ⟨_, rfl⟩
  have h1 := l.ht_sz
  have h2 := r.ht_sz
  have HLP := hidden hlp
  have HRP := hidden hrp
  simp only [hlp, hrp]
  clear hl hr hb hlp hrp
  go_enter Try.func42, Try.ntmps42
  go_upto_region 2 with (fail)
  refine wp_gen (fun W => Tw [b] w W ∧ W.heap[b]? = some (.cells #[.pointer lo, .pointer ro, x2, x3, .int .i64 g.ga, .int .i64 g.gb, .int .i64 g.la, .int .i64 g.lb, x8, x9, x10, x11] 54)) ⟨((Tw.refl w).mono (by simp)).set (by simp) _ _ |>.set (by simp) _ _, by have := blk_set (blk_set HB.out 0 (.pointer lo)) 1 (.pointer ro); simpa using this⟩ ?_
  clear c0 c1 m0 HB
  rintro w1 ⟨ht1, hb1⟩
  have hl1 : l.Rep w1 := HL.out.tw ht1 (fun k hk => by simp; rintro rfl; exact hbl hk)
  have hr1 : r.Rep w1 := HR.out.tw ht1 (fun k hk => by simp; rintro rfl; exact hbr hk)
  have H1 := hidden (height_any l w1 hl1)
  have H2 := hidden (height_any r w1 hr1)
  rw [HLP.out] at H1
  rw [HRP.out] at H2
  have HT1 := hidden ht1
  have HB1 := hidden hb1
  have HL1 := hidden hl1
  have HR1 := hidden hr1
  have c2 := cell_of_cells hb1 2
  have c3 := cell_of_cells hb1 3
  have m1 := mark_of_cells hb1
  simp at c2 c3
  clear ht1 hb1 hl1 hr1
  go_upto_region 4 with (go_at_call 15; first | (with_reducible refine H1.out.mono ?_; rintro _ w1 ⟨rfl, rfl⟩) | (with_reducible refine H2.out.mono ?_; rintro _ w1 ⟨rfl, rfl⟩))
  have hH : (1 + if l.ht < r.ht then (r.ht : Int) else (l.ht : Int)) = ((1 + max l.ht r.ht : Nat) : Int) := by split <;> omega
  rw [hH]
  generalize (if l.ht < r.ht then (r.ht : Int) else (l.ht : Int)) = M
  obtain ⟨N, hN⟩ : ∃ N, 1 + max l.ht r.ht = N := ⟨_, rfl⟩
  rw [hN]
  refine wp_gen (fun W => Tw [b] w W ∧ W.heap[b]? = some (.cells #[.pointer lo, .pointer ro, .int .i64 (N : Int), .int .i64 1, .int .i64 g.ga, .int .i64 g.gb, .int .i64 g.la, .int .i64 g.lb, x8, x9, x10, x11] 54)) ⟨(HT1.out.set (by simp) _ _).set (by simp) _ _, by have := blk_set (blk_set HB1.out 2 (.int .i64 (N : Int))) 3 (.int .i64 1); simpa using this⟩ ?_
  clear c2 c3 m1 HB1 HT1 HL1 HR1 H1 H2
  rintro w2 ⟨ht2, hb2⟩
  have HT2 := hidden ht2
  have HB2 := hidden hb2
  have c4 := cell_of_cells hb2 4
  have c5 := cell_of_cells hb2 5
  have c6 := cell_of_cells hb2 6
  have c7 := cell_of_cells hb2 7
  have c8 := cell_of_cells hb2 8
  have c9 := cell_of_cells hb2 9
  have c10 := cell_of_cells hb2 10
  have c11 := cell_of_cells hb2 11
  have m2 := mark_of_cells hb2
  simp at c4 c5 c6 c7 c8 c9 c10 c11
  clear ht2 hb2
  go_region
  go_upto_region 5 with (fail)
  refine wp_gen (fun W => Tw [b] w W ∧ W.heap[b]? = some (.cells #[.pointer lo, .pointer ro, .int .i64 (N : Int), .int .i64 1, .int .i64 g.ga, .int .i64 g.gb, .int .i64 g.la, .int .i64 g.lb, .int .i64 (wrap64 (g.ga + g.la)), .int .i64 (wrap64 (g.gb + g.lb)), x10, x11] 54)) ⟨by repeat (first | with_reducible exact HT2.out | with_reducible refine Tw.drew ?_ | with_reducible refine Tw.set ?_ (by simp) _ _), ?_⟩ ?_
  · have := blk_set (blk_set HB2.out 8 (.int .i64 (wrap64 (g.ga + g.la)))) 9 (.int .i64 (wrap64 (g.gb + g.lb)))
    simpa [drew_heap] using this
  clear c4 c5 c6 c7 c8 c9 c10 c11 m2 HT2 HB2
  rintro w4 ⟨ht2, hb2⟩
  have HT2 := hidden ht2
  have HB2 := hidden hb2
  have c6 := cell_of_cells hb2 6
  have c7 := cell_of_cells hb2 7
  have c10 := cell_of_cells hb2 10
  have c11 := cell_of_cells hb2 11
  have m2 := mark_of_cells hb2
  simp at c6 c7 c10 c11
  clear ht2 hb2
  go_region
  go_wp2_with (fail)
  refine wp_gen (fun W => Tw [b] w W ∧ W.heap[b]? = some (.cells (part l g r 0) 54)) ⟨by repeat (first | with_reducible exact HT2.out | with_reducible refine Tw.drew ?_ | with_reducible refine Tw.set ?_ (by simp) _ _), ?_⟩ ?_
  · have := blk_set (blk_set HB2.out 10 (.int .i64 g.la)) 11 (.int .i64 g.lb)
    simpa [drew_heap, part, HLP.out, HRP.out, hN, IntWalk.wrap64_in _ g.ha, IntWalk.wrap64_in _ g.hb] using this
  clear c6 c7 c10 c11 m2 HT2 HB2
  rintro w3 ⟨ht3, hb3⟩
  have HT3 := hidden ht3
  have HB3 := hidden hb3
  clear ht3 hb3
  go_loopw [70] (fun s wi => ∃ (i p3 : Nat) (p8 p9 p10 p11 : Int), i ≤ 2 ∧ s = .int .i64 i ∧ Tw [b] w wi ∧ wi.heap[b]? = some (.cells #[.pointer lo, .pointer ro, .int .i64 (N : Int), .int .i64 (p3 : Int), .int .i64 g.ga, .int .i64 g.gb, .int .i64 g.la, .int .i64 g.lb, .int .i64 p8, .int .i64 p9, .int .i64 p10, .int .i64 p11] 54) ∧ p3 = 1 + (if 1 ≤ i then l.sz else 0) + (if 2 ≤ i then r.sz else 0) ∧ p8 = wrap64 ((g.ga + g.la) + (if 1 ≤ i then totA l.seq else 0) + (if 2 ≤ i then totA r.seq else 0)) ∧ p9 = wrap64 ((g.gb + g.lb) + (if 1 ≤ i then totB l.seq else 0) + (if 2 ≤ i then totB r.seq else 0)) ∧ p10 = wrap64 (g.la + (if 1 ≤ i then lenA l.seq else 0) + (if 2 ≤ i then lenA r.seq else 0)) ∧ p11 = wrap64 (g.lb + (if 1 ≤ i then lenB l.seq else 0) + (if 2 ≤ i then lenB r.seq else 0))) (fun s _ => 2 - (intOf s).toNat)
  case atStart =>
    refine ⟨0, 1, _, _, _, _, by omega, rfl, HT3.out, ?_, by simp, by simp; rfl, by simp; rfl, by simp; rfl, by simp; rfl⟩
    have := HB3.out
    simpa [part, HLP.out, HRP.out, hN] using this
  case round =>
    clear HT3 HB3
    obtain ⟨i, p3, p8, p9, p10, p11, hi, rfl, ht, hb, e3, e8, e9, e10, e11⟩ := hrel
    have HT := hidden ht
    have HB := hidden hb
    have HN := hidden hN
    have c3 := cell_of_cells hb 3
    have c8 := cell_of_cells hb 8
    have c9 := cell_of_cells hb 9
    have c10 := cell_of_cells hb 10
    have c11 := cell_of_cells hb 11
    have m2 := mark_of_cells hb
    simp at c3 c8 c9 c10 c11
    have E3 := hidden e3
    have E8 := hidden e8
    have E9 := hidden e9
    have E10 := hidden e10
    have E11 := hidden e11
    clear ht hb e3 e8 e9 e10 e11 hN
    have I0 : ∀ w, (Instr.index 75 (.agg #[.pointer lo, .pointer ro]) (.int .i64 0)).run Try.prog w = .ok (.pointer lo) w := idx0 _ _
    have I1 : ∀ w, (Instr.index 75 (.agg #[.pointer lo, .pointer ro]) (.int .i64 1)).run Try.prog w = .ok (.pointer ro) w := idx1 _ _
    rcases i with _ | _ | _ | i
    · cases l with
      | nil =>
        have e : lo = none := by have := HLP.out; simpa [T.ptr] using this.symm
        subst e
        go_wp2_with (fail)
        exact ⟨⟨1, p3, p8, p9, p10, p11, by omega, rfl, HT.out, HB.out, by simpa [T.sz, T.seq, totA, totB, lenA, lenB] using E3.out, by simpa [T.sz, T.seq, totA, totB, lenA, lenB] using E8.out, by simpa [T.sz, T.seq, totA, totB, lenA, lenB] using E9.out, by simpa [T.sz, T.seq, totA, totB, lenA, lenB] using E10.out, by simpa [T.sz, T.seq, totA, totB, lenA, lenB] using E11.out⟩, by simp [intOf]⟩
      | node cb cl cg cr =>
        have e : lo = some ⟨cb, 0, none⟩ := by have := HLP.out; simpa [T.ptr] using this.symm
        subst e
        have hne : ¬ cb = b := fun e => hbl (by rw [T.blocks_node, e]; simp)
        have hne' : ¬ b = cb := fun e => hne e.symm
        obtain ⟨s3, t8, t9, t10, t11, hc, hs3, hs8, hs9, hs10, hs11⟩ : ∃ (s3 : Nat) (t8 t9 t10 t11 : Int), Nd wr cb s3 t8 t9 t10 t11 ∧ Hid ((T.node cb cl cg cr).sz = s3) ∧ Hid (t8 = wrap64 (totA (T.node cb cl cg cr).seq)) ∧ Hid (t9 = wrap64 (totB (T.node cb cl cg cr).seq)) ∧ Hid (t10 = wrap64 (lenA (T.node cb cl cg cr).seq)) ∧ Hid (t11 = wrap64 (lenB (T.node cb cl cg cr).seq)) :=
          ⟨_, _, _, _, _, (HL.out.tw HT.out (fun k hk => by simp; rintro rfl; exact hbl hk)).nd, rfl, rfl, rfl, rfl, rfl⟩
        have hs3b : s3 ≤ 70000 := by have := hs3.out; omega
        have hp3 : p3 ≤ 70001 := by have := E3.out; rw [this]; simp
        have HC := hidden hc
        obtain ⟨d3, d8, d9, d10, d11⟩ := hc
        clear hsz h1 h2
        go_upto_region 10 with (fail)
        go_region
        go_upto_region 11 with (fail)
        refine wp_gen (fun W => Tw [b] w W ∧ Nd W cb s3 t8 t9 t10 t11 ∧ ∃ n3 : Nat, Hid (n3 = p3 + s3) ∧ W.heap[b]? = some (.cells #[.pointer (some ⟨cb, 0, none⟩), .pointer ro, .int .i64 (N : Int), .int .i64 (n3 : Int), .int .i64 g.ga, .int .i64 g.gb, .int .i64 g.la, .int .i64 g.lb, .int .i64 p8, .int .i64 p9, .int .i64 p10, .int .i64 p11] 54)) ⟨(HT.out.set (by simp) _ _).drew, HC.out.far hne _ _, p3 + s3, rfl, (by have := blk_set HB.out 3 (.int .i64 ((p3 + s3 : Nat) : Int)); simpa [drew_heap] using this)⟩ ?_
        clear c3 c8 c9 c10 c11 m2 HT HB d3 d8 d9 d10 d11 HC
        clear wr
        rintro wr ⟨ht, hc, n3, Xn3, hb⟩
        have HT := hidden ht
        have HB := hidden hb
        have HC := hidden hc
        have hn3 : n3 ≤ 200000 := by have := Xn3.out; omega
        have c3 := cell_of_cells hb 3
        have c8 := cell_of_cells hb 8
        have c9 := cell_of_cells hb 9
        have c10 := cell_of_cells hb 10
        have c11 := cell_of_cells hb 11
        have m2 := mark_of_cells hb
        simp at c3 c8 c9 c10 c11
        obtain ⟨d3, d8, d9, d10, d11⟩ := hc
        clear ht hb
        go_region
        go_upto_region 12 with (fail)
        refine wp_gen (fun W => Tw [b] w W ∧ Nd W cb s3 t8 t9 t10 t11 ∧ ∃ n8 : Int, Hid (n8 = wrap64 (p8 + t8)) ∧ W.heap[b]? = some (.cells #[.pointer (some ⟨cb, 0, none⟩), .pointer ro, .int .i64 (N : Int), .int .i64 (n3 : Int), .int .i64 g.ga, .int .i64 g.gb, .int .i64 g.la, .int .i64 g.lb, .int .i64 n8, .int .i64 p9, .int .i64 p10, .int .i64 p11] 54)) ⟨(HT.out.set (by simp) _ _).drew, HC.out.far hne _ _, _, rfl, (by have := blk_set HB.out 8 (.int .i64 (wrap64 (p8 + t8))); simpa [drew_heap] using this)⟩ ?_
        clear c3 c8 c9 c10 c11 m2 HT HB d3 d8 d9 d10 d11 HC
        clear wr
        rintro wr ⟨ht, hc, n8, Xn8, hb⟩
        have HT := hidden ht
        have HB := hidden hb
        have HC := hidden hc
        have c3 := cell_of_cells hb 3
        have c8 := cell_of_cells hb 8
        have c9 := cell_of_cells hb 9
        have c10 := cell_of_cells hb 10
        have c11 := cell_of_cells hb 11
        have m2 := mark_of_cells hb
        simp at c3 c8 c9 c10 c11
        obtain ⟨d3, d8, d9, d10, d11⟩ := hc
        clear ht hb
        go_region
        go_upto_region 13 with (fail)
        refine wp_gen (fun W => Tw [b] w W ∧ Nd W cb s3 t8 t9 t10 t11 ∧ ∃ n9 : Int, Hid (n9 = wrap64 (p9 + t9)) ∧ W.heap[b]? = some (.cells #[.pointer (some ⟨cb, 0, none⟩), .pointer ro, .int .i64 (N : Int), .int .i64 (n3 : Int), .int .i64 g.ga, .int .i64 g.gb, .int .i64 g.la, .int .i64 g.lb, .int .i64 n8, .int .i64 n9, .int .i64 p10, .int .i64 p11] 54)) ⟨(HT.out.set (by simp) _ _).drew, HC.out.far hne _ _, _, rfl, (by have := blk_set HB.out 9 (.int .i64 (wrap64 (p9 + t9))); simpa [drew_heap] using this)⟩ ?_
        clear c3 c8 c9 c10 c11 m2 HT HB d3 d8 d9 d10 d11 HC
        clear wr
        rintro wr ⟨ht, hc, n9, Xn9, hb⟩
        have HT := hidden ht
        have HB := hidden hb
        have HC := hidden hc
        have c3 := cell_of_cells hb 3
        have c8 := cell_of_cells hb 8
        have c9 := cell_of_cells hb 9
        have c10 := cell_of_cells hb 10
        have c11 := cell_of_cells hb 11
        have m2 := mark_of_cells hb
        simp at c3 c8 c9 c10 c11
        obtain ⟨d3, d8, d9, d10, d11⟩ := hc
        clear ht hb
        go_region
        go_upto_region 14 with (fail)
        refine wp_gen (fun W => Tw [b] w W ∧ Nd W cb s3 t8 t9 t10 t11 ∧ ∃ n10 : Int, Hid (n10 = wrap64 (p10 + t10)) ∧ W.heap[b]? = some (.cells #[.pointer (some ⟨cb, 0, none⟩), .pointer ro, .int .i64 (N : Int), .int .i64 (n3 : Int), .int .i64 g.ga, .int .i64 g.gb, .int .i64 g.la, .int .i64 g.lb, .int .i64 n8, .int .i64 n9, .int .i64 n10, .int .i64 p11] 54)) ⟨(HT.out.set (by simp) _ _).drew, HC.out.far hne _ _, _, rfl, (by have := blk_set HB.out 10 (.int .i64 (wrap64 (p10 + t10))); simpa [drew_heap] using this)⟩ ?_
        clear c3 c8 c9 c10 c11 m2 HT HB d3 d8 d9 d10 d11 HC
        clear wr
        rintro wr ⟨ht, hc, n10, Xn10, hb⟩
        have HT := hidden ht
        have HB := hidden hb
        have HC := hidden hc
        have c3 := cell_of_cells hb 3
        have c8 := cell_of_cells hb 8
        have c9 := cell_of_cells hb 9
        have c10 := cell_of_cells hb 10
        have c11 := cell_of_cells hb 11
        have m2 := mark_of_cells hb
        simp at c3 c8 c9 c10 c11
        obtain ⟨d3, d8, d9, d10, d11⟩ := hc
        clear ht hb
        go_region
        go_upto_region 15 with (fail)
        refine wp_gen (fun W => Tw [b] w W ∧ Nd W cb s3 t8 t9 t10 t11 ∧ ∃ n11 : Int, Hid (n11 = wrap64 (p11 + t11)) ∧ W.heap[b]? = some (.cells #[.pointer (some ⟨cb, 0, none⟩), .pointer ro, .int .i64 (N : Int), .int .i64 (n3 : Int), .int .i64 g.ga, .int .i64 g.gb, .int .i64 g.la, .int .i64 g.lb, .int .i64 n8, .int .i64 n9, .int .i64 n10, .int .i64 n11] 54)) ⟨(HT.out.set (by simp) _ _).drew, HC.out.far hne _ _, _, rfl, (by have := blk_set HB.out 11 (.int .i64 (wrap64 (p11 + t11))); simpa [drew_heap] using this)⟩ ?_
        clear c3 c8 c9 c10 c11 m2 HT HB d3 d8 d9 d10 d11 HC
        clear wr
        rintro wr ⟨ht, hc, n11, Xn11, hb⟩
        have HT := hidden ht
        have HB := hidden hb
        have HC := hidden hc
        have c3 := cell_of_cells hb 3
        have c8 := cell_of_cells hb 8
        have c9 := cell_of_cells hb 9
        have c10 := cell_of_cells hb 10
        have c11 := cell_of_cells hb 11
        have m2 := mark_of_cells hb
        simp at c3 c8 c9 c10 c11
        obtain ⟨d3, d8, d9, d10, d11⟩ := hc
        clear ht hb
        go_wp2_with (fail)
        refine ⟨⟨1, n3, n8, n9, n10, n11, by omega, rfl, HT.out, HB.out, ?_, ?_, ?_, ?_, ?_⟩, by simp [intOf]⟩
        · rw [Xn3.out, E3.out, ← hs3.out]; simp
        · rw [Xn8.out, E8.out, hs8.out, wrap_add', wrap_add]; simp
        · rw [Xn9.out, E9.out, hs9.out, wrap_add', wrap_add]; simp
        · rw [Xn10.out, E10.out, hs10.out, wrap_add', wrap_add]; simp
        · rw [Xn11.out, E11.out, hs11.out, wrap_add', wrap_add]; simp
    · cases r with
      | nil =>
        have e : ro = none := by have := HRP.out; simpa [T.ptr] using this.symm
        subst e
        go_wp2_with (fail)
        exact ⟨⟨2, p3, p8, p9, p10, p11, by omega, rfl, HT.out, HB.out, by simpa [T.sz, T.seq, totA, totB, lenA, lenB] using E3.out, by simpa [T.sz, T.seq, totA, totB, lenA, lenB] using E8.out, by simpa [T.sz, T.seq, totA, totB, lenA, lenB] using E9.out, by simpa [T.sz, T.seq, totA, totB, lenA, lenB] using E10.out, by simpa [T.sz, T.seq, totA, totB, lenA, lenB] using E11.out⟩, by simp [intOf]⟩
      | node cb cl cg cr =>
        have e : ro = some ⟨cb, 0, none⟩ := by have := HRP.out; simpa [T.ptr] using this.symm
        subst e
        have hne : ¬ cb = b := fun e => hbr (by rw [T.blocks_node, e]; simp)
        have hne' : ¬ b = cb := fun e => hne e.symm
        obtain ⟨s3, t8, t9, t10, t11, hc, hs3, hs8, hs9, hs10, hs11⟩ : ∃ (s3 : Nat) (t8 t9 t10 t11 : Int), Nd wr cb s3 t8 t9 t10 t11 ∧ Hid ((T.node cb cl cg cr).sz = s3) ∧ Hid (t8 = wrap64 (totA (T.node cb cl cg cr).seq)) ∧ Hid (t9 = wrap64 (totB (T.node cb cl cg cr).seq)) ∧ Hid (t10 = wrap64 (lenA (T.node cb cl cg cr).seq)) ∧ Hid (t11 = wrap64 (lenB (T.node cb cl cg cr).seq)) :=
          ⟨_, _, _, _, _, (HR.out.tw HT.out (fun k hk => by simp; rintro rfl; exact hbr hk)).nd, rfl, rfl, rfl, rfl, rfl⟩
        have hs3b : s3 ≤ 70000 := by have := hs3.out; omega
        have hp3 : p3 ≤ 70001 := by have := E3.out; rw [this]; simp; omega
        have HC := hidden hc
        obtain ⟨d3, d8, d9, d10, d11⟩ := hc
        clear hsz h1 h2
        go_upto_region 10 with (fail)
        go_region
        go_upto_region 11 with (fail)
        refine wp_gen (fun W => Tw [b] w W ∧ Nd W cb s3 t8 t9 t10 t11 ∧ ∃ n3 : Nat, Hid (n3 = p3 + s3) ∧ W.heap[b]? = some (.cells #[.pointer lo, .pointer (some ⟨cb, 0, none⟩), .int .i64 (N : Int), .int .i64 (n3 : Int), .int .i64 g.ga, .int .i64 g.gb, .int .i64 g.la, .int .i64 g.lb, .int .i64 p8, .int .i64 p9, .int .i64 p10, .int .i64 p11] 54)) ⟨(HT.out.set (by simp) _ _).drew, HC.out.far hne _ _, p3 + s3, rfl, (by have := blk_set HB.out 3 (.int .i64 ((p3 + s3 : Nat) : Int)); simpa [drew_heap] using this)⟩ ?_
        clear c3 c8 c9 c10 c11 m2 HT HB d3 d8 d9 d10 d11 HC
        clear wr
        rintro wr ⟨ht, hc, n3, Xn3, hb⟩
        have HT := hidden ht
        have HB := hidden hb
        have HC := hidden hc
        have hn3 : n3 ≤ 200000 := by have := Xn3.out; omega
        have c3 := cell_of_cells hb 3
        have c8 := cell_of_cells hb 8
        have c9 := cell_of_cells hb 9
        have c10 := cell_of_cells hb 10
        have c11 := cell_of_cells hb 11
        have m2 := mark_of_cells hb
        simp at c3 c8 c9 c10 c11
        obtain ⟨d3, d8, d9, d10, d11⟩ := hc
        clear ht hb
        go_region
        go_upto_region 12 with (fail)
        refine wp_gen (fun W => Tw [b] w W ∧ Nd W cb s3 t8 t9 t10 t11 ∧ ∃ n8 : Int, Hid (n8 = wrap64 (p8 + t8)) ∧ W.heap[b]? = some (.cells #[.pointer lo, .pointer (some ⟨cb, 0, none⟩), .int .i64 (N : Int), .int .i64 (n3 : Int), .int .i64 g.ga, .int .i64 g.gb, .int .i64 g.la, .int .i64 g.lb, .int .i64 n8, .int .i64 p9, .int .i64 p10, .int .i64 p11] 54)) ⟨(HT.out.set (by simp) _ _).drew, HC.out.far hne _ _, _, rfl, (by have := blk_set HB.out 8 (.int .i64 (wrap64 (p8 + t8))); simpa [drew_heap] using this)⟩ ?_
        clear c3 c8 c9 c10 c11 m2 HT HB d3 d8 d9 d10 d11 HC
        clear wr
        rintro wr ⟨ht, hc, n8, Xn8, hb⟩
        have HT := hidden ht
        have HB := hidden hb
        have HC := hidden hc
        have c3 := cell_of_cells hb 3
        have c8 := cell_of_cells hb 8
        have c9 := cell_of_cells hb 9
        have c10 := cell_of_cells hb 10
        have c11 := cell_of_cells hb 11
        have m2 := mark_of_cells hb
        simp at c3 c8 c9 c10 c11
        obtain ⟨d3, d8, d9, d10, d11⟩ := hc
        clear ht hb
        go_region
        go_upto_region 13 with (fail)
        refine wp_gen (fun W => Tw [b] w W ∧ Nd W cb s3 t8 t9 t10 t11 ∧ ∃ n9 : Int, Hid (n9 = wrap64 (p9 + t9)) ∧ W.heap[b]? = some (.cells #[.pointer lo, .pointer (some ⟨cb, 0, none⟩), .int .i64 (N : Int), .int .i64 (n3 : Int), .int .i64 g.ga, .int .i64 g.gb, .int .i64 g.la, .int .i64 g.lb, .int .i64 n8, .int .i64 n9, .int .i64 p10, .int .i64 p11] 54)) ⟨(HT.out.set (by simp) _ _).drew, HC.out.far hne _ _, _, rfl, (by have := blk_set HB.out 9 (.int .i64 (wrap64 (p9 + t9))); simpa [drew_heap] using this)⟩ ?_
        clear c3 c8 c9 c10 c11 m2 HT HB d3 d8 d9 d10 d11 HC
        clear wr
        rintro wr ⟨ht, hc, n9, Xn9, hb⟩
        have HT := hidden ht
        have HB := hidden hb
        have HC := hidden hc
        have c3 := cell_of_cells hb 3
        have c8 := cell_of_cells hb 8
        have c9 := cell_of_cells hb 9
        have c10 := cell_of_cells hb 10
        have c11 := cell_of_cells hb 11
        have m2 := mark_of_cells hb
        simp at c3 c8 c9 c10 c11
        obtain ⟨d3, d8, d9, d10, d11⟩ := hc
        clear ht hb
        go_region
        go_upto_region 14 with (fail)
        refine wp_gen (fun W => Tw [b] w W ∧ Nd W cb s3 t8 t9 t10 t11 ∧ ∃ n10 : Int, Hid (n10 = wrap64 (p10 + t10)) ∧ W.heap[b]? = some (.cells #[.pointer lo, .pointer (some ⟨cb, 0, none⟩), .int .i64 (N : Int), .int .i64 (n3 : Int), .int .i64 g.ga, .int .i64 g.gb, .int .i64 g.la, .int .i64 g.lb, .int .i64 n8, .int .i64 n9, .int .i64 n10, .int .i64 p11] 54)) ⟨(HT.out.set (by simp) _ _).drew, HC.out.far hne _ _, _, rfl, (by have := blk_set HB.out 10 (.int .i64 (wrap64 (p10 + t10))); simpa [drew_heap] using this)⟩ ?_
        clear c3 c8 c9 c10 c11 m2 HT HB d3 d8 d9 d10 d11 HC
        clear wr
        rintro wr ⟨ht, hc, n10, Xn10, hb⟩
        have HT := hidden ht
        have HB := hidden hb
        have HC := hidden hc
        have c3 := cell_of_cells hb 3
        have c8 := cell_of_cells hb 8
        have c9 := cell_of_cells hb 9
        have c10 := cell_of_cells hb 10
        have c11 := cell_of_cells hb 11
        have m2 := mark_of_cells hb
        simp at c3 c8 c9 c10 c11
        obtain ⟨d3, d8, d9, d10, d11⟩ := hc
        clear ht hb
        go_region
        go_upto_region 15 with (fail)
        refine wp_gen (fun W => Tw [b] w W ∧ Nd W cb s3 t8 t9 t10 t11 ∧ ∃ n11 : Int, Hid (n11 = wrap64 (p11 + t11)) ∧ W.heap[b]? = some (.cells #[.pointer lo, .pointer (some ⟨cb, 0, none⟩), .int .i64 (N : Int), .int .i64 (n3 : Int), .int .i64 g.ga, .int .i64 g.gb, .int .i64 g.la, .int .i64 g.lb, .int .i64 n8, .int .i64 n9, .int .i64 n10, .int .i64 n11] 54)) ⟨(HT.out.set (by simp) _ _).drew, HC.out.far hne _ _, _, rfl, (by have := blk_set HB.out 11 (.int .i64 (wrap64 (p11 + t11))); simpa [drew_heap] using this)⟩ ?_
        clear c3 c8 c9 c10 c11 m2 HT HB d3 d8 d9 d10 d11 HC
        clear wr
        rintro wr ⟨ht, hc, n11, Xn11, hb⟩
        have HT := hidden ht
        have HB := hidden hb
        have HC := hidden hc
        have c3 := cell_of_cells hb 3
        have c8 := cell_of_cells hb 8
        have c9 := cell_of_cells hb 9
        have c10 := cell_of_cells hb 10
        have c11 := cell_of_cells hb 11
        have m2 := mark_of_cells hb
        simp at c3 c8 c9 c10 c11
        obtain ⟨d3, d8, d9, d10, d11⟩ := hc
        clear ht hb
        go_wp2_with (fail)
        refine ⟨⟨2, n3, n8, n9, n10, n11, by omega, rfl, HT.out, HB.out, ?_, ?_, ?_, ?_, ?_⟩, by simp [intOf]⟩
        · rw [Xn3.out, E3.out, ← hs3.out]; simp
        · rw [Xn8.out, E8.out, hs8.out, wrap_add', wrap_add]; simp
        · rw [Xn9.out, E9.out, hs9.out, wrap_add', wrap_add]; simp
        · rw [Xn10.out, E10.out, hs10.out, wrap_add', wrap_add]; simp
        · rw [Xn11.out, E11.out, hs11.out, wrap_add', wrap_add]; simp
    · go_wp2_with (fail)
      go_ret
      refine ⟨rfl, ⟨?_, HL.out.tw HT.out (fun k hk => by simp; rintro rfl; exact hbl hk), HR.out.tw HT.out (fun k hk => by simp; rintro rfl; exact hbr hk)⟩, HT.out⟩
      rw [← part_two]
      have := HB.out
      simpa [part, HLP.out, HRP.out, HN.out, E3.out, E8.out, E9.out, E10.out, E11.out] using this
    · omega
end Go.Proofs.Qxb6500688a
