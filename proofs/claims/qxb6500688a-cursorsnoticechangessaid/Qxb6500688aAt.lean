import Derived.Test.Qxb6500688aConcat
namespace Go.Proofs.Qxb6500688a
open Go.RowKit Go.BigFrame
set_option linter.unusedSimpArgs false
attribute [local go_sem] ext_cell_if ext_frozen_if alloc_cell_if alloc_frozen_if ext_size ext_ext
/-- The index: its variable, its tree. -/
structure Ix (w : World) (ib : Nat) (t : T) (ver : Int) : Prop where
  cell : w.heap[ib]? = some (.cells #[t.ptr, .int .u64 ver] 46)
  rep : t.Rep w
  nd : t.blocks.Nodup
  out : ib ∉ t.blocks
  sz : t.sz ≤ 2048
  ver0 : 0 ≤ ver ∧ ver ≤ 18446744073709551615
theorem Ix.keep {w w' : World} {ib : Nat} {t : T} {ver : Int} (h : Ix w ib t ver) (hk : ∀ k, k < w.heap.size → w'.heap[k]? = w.heap[k]?) : Ix w' ib t ver :=
  ⟨(hk ib (lt_of_cells h.cell)).trans h.cell, h.rep.keep fun k hk' => hk k (h.rep.lt k hk'), h.nd, h.out, h.sz, h.ver0⟩
theorem Ix.gr {w w' : World} {ib : Nat} {t : T} {ver : Int} (h : Ix w ib t ver) (hg : Gr w.heap.size w w') : Ix w' ib t ver := h.keep fun k hk => hg.1.block k hk
/-- The hunk number i of the list s, g its own numbers. -/
def hunkOf (s : List (Nat × G)) (i : Nat) (g : G) : Value := .agg #[.int .i64 (wrap64 (totA (s.take i) + g.ga)), .int .i64 g.la, .int .i64 (wrap64 (totB (s.take i) + g.gb)), .int .i64 g.lb]
/-- The height that is stored behind a pointer. -/
def htOf (w : World) : Value → Nat
  | .pointer (some p) => (intOf ((w.cell? ⟨p.block, 2, none⟩).getD undef)).toNat
  | _ => 0
theorem htOf_rep {w : World} {t : T} (h : t.Rep w) : htOf w t.ptr = t.ht := by
  cases t with
  | nil => rfl
  | node b l g r => simp only [htOf, T.ptr, ht_cell h.1]; simp [intOf, T.ht]; omega
theorem num_cells {w : World} {b : Nat} {l r : T} {g : G} (h : w.heap[b]? = some (.cells (row l g r) 54)) : w.cell? ⟨b, 4, none⟩ = some (.int .i64 g.ga) ∧ w.cell? ⟨b, 5, none⟩ = some (.int .i64 g.gb) ∧ w.cell? ⟨b, 6, none⟩ = some (.int .i64 g.la) ∧ w.cell? ⟨b, 7, none⟩ = some (.int .i64 g.lb) :=
  ⟨cell_of_cells h 4, cell_of_cells h 5, cell_of_cells h 6, cell_of_cells h 7⟩
theorem take_left {b : Nat} {l r : T} {g : G} {j : Nat} (h : j < l.sz) : (T.node b l g r).seq.take j = l.seq.take j ∧ (T.node b l g r).seq[j]? = l.seq[j]? := by
  have := l.sz_seq
  exact ⟨List.take_append_of_le_length (by omega), List.getElem?_append_left (by omega)⟩
theorem take_mid {b : Nat} {l r : T} {g : G} : (T.node b l g r).seq.take l.sz = l.seq ∧ (T.node b l g r).seq[l.sz]? = some (b, g) := by
  have := l.sz_seq
  refine ⟨by rw [T.seq, ← this]; simp, ?_⟩
  rw [T.seq, List.getElem?_append_right (by omega)]; simp [this]
theorem take_right {b : Nat} {l r : T} {g : G} {k : Nat} : (T.node b l g r).seq.take (l.sz + 1 + k) = l.seq ++ (b, g) :: r.seq.take k ∧ (T.node b l g r).seq[l.sz + 1 + k]? = r.seq[k]? := by
  have := l.sz_seq
  refine ⟨?_, ?_⟩
  · rw [T.seq, show l.sz + 1 + k = l.seq.length + (k + 1) by omega, List.take_append]
    simp [List.take_of_length_le]
  · rw [T.seq, List.getElem?_append_right (by omega), show l.sz + 1 + k - l.seq.length = k + 1 by omega]
    simp
theorem post_gen {P : Program} {f : Func} {R : Ending → World → Prop} {e : Exit} {a : Act} {w : World} (S : World → Prop) (hS : S w) (h : ∀ w1, S w1 → bodyPost P f R e a w1) : bodyPost P f R e a w := h w hS
theorem wrap3 (a b c : Int) : wrap64 (wrap64 (wrap64 a + wrap64 b) + c) = wrap64 (a + b + c) := by unfold wrap64; omega
set_option maxRecDepth 100000 in
set_option maxHeartbeats 1000000 in
theorem at_any (ib : Nat) (t : T) (ver : Int) (i : Nat) (p : Nat × G) (w : World) (hx : Ix w ib t ver) (hi : t.seq[i]? = some p) :
    Calls Try.prog 14 #[.pointer (some ⟨ib, 0, none⟩), .int .i64 i] w fun e w' => e = .returned (hunkOf t.seq i p.2) ∧ ∃ x, w' = ext w x := by
  have HX := hidden hx
  have c0 := cell_of_cells hx.cell 0
  have hiw := lt_of_cells hx.cell
  have hisz : i < t.sz := by rw [← T.sz_seq]; exact (List.getElem?_eq_some_iff.1 hi).1
  have hsz := hx.sz
  simp at c0
  have HI := hidden hi
  clear hx hi
  go_enter Try.func14, Try.ntmps14
  go_wp2
  obtain ⟨C, hC⟩ : ∃ C, w.heap.size = C := ⟨_, rfl⟩
  rw [hC]
  go_loopw [1, 5, 6, 7] (fun s1 s5 s6 s7 wi => ∃ (u : T) (j : Nat) (PA PB : Int), s7 = u.ptr ∧ s1 = .int .i64 j ∧ s5 = .int .i64 (wrap64 PA) ∧ s6 = .int .i64 (wrap64 PB) ∧ j < u.sz ∧ u.sz ≤ 2048 ∧ u.Rep w ∧ totA (t.seq.take i) = PA + totA (u.seq.take j) ∧ totB (t.seq.take i) = PB + totB (u.seq.take j) ∧ u.seq[j]? = some p ∧
      Gr C w wi ∧ wi.heap[C]? = some (.cells #[.int .i64 0, .int .i64 0, .int .i64 0, .int .i64 0] 41)) (fun _ _ _ s7 _ => htOf w s7)
  case atStart => exact ⟨t, i, 0, 0, rfl, rfl, by simp [wrap64], by simp [wrap64], hisz, hsz, HX.out.rep, by simp, by simp, HI.out, by rw [← hC]; exact (Gr.refl w).alloc _, by rw [← hC]; exact heap_new _ _⟩
  case round =>
    clear c0
    obtain ⟨u, j, PA, PB, rfl, rfl, rfl, rfl, hj, hus, hu, hA, hB, hp, hg, hc⟩ := hrel
    have HA := hidden hA
    have HB := hidden hB
    have HP := hidden hp
    have HG := hidden hg
    have HC := hidden hc
    have HU := hidden hu
    have HT := hidden (htOf_rep hu)
    cases u with
    | nil => simp [T.sz] at hj
    | node b l g r =>
      have hur : (T.node b l g r).Rep wr := hu.keep fun k hk => hg.1.block k (by have := hu.lt k hk; omega)
      have HUR := hidden hur
      obtain ⟨d0, d1⟩ := row_cells hur.1
      obtain ⟨d4, d5, d6, d7⟩ := num_cells hur.1
      have hbw := lt_of_cells hur.1
      have hCw := lt_of_cells hc
      have k0 := cell_of_cells hc 0
      have k1 := cell_of_cells hc 1
      have k2 := cell_of_cells hc 2
      have k3 := cell_of_cells hc 3
      have km := mark_of_cells hc
      simp at k0 k1 k2 k3
      have hbC : ¬ b = C := by have := hu.lt b (by simp [T.blocks_node]); omega
      have hCb : ¬ C = b := fun e => hbC e.symm
      have S1 := hidden (spans_any l wr hur.2.1)
      have hm1 : htOf w l.ptr = l.ht := htOf_rep hu.2.1
      have hm2 : htOf w r.ptr = r.ht := htOf_rep hu.2.2
      have hm0 : htOf w (T.node b l g r).ptr = 1 + max l.ht r.ht := htOf_rep hu
      have hj' : j < l.sz + 1 + r.sz := hj
      have hus' : l.sz + 1 + r.sz ≤ 2048 := hus
      have CN : Hid (∀ x, Calls Try.prog 16 #[l.ptr] (ext wr x) fun e w' => e = .returned (.int .i64 (l.sz : Nat)) ∧ w' = ext wr x) := fun x => count_any l _ (hur.2.1.tw (Tw.of_ext wr x) (by simp))
      clear hA hB hp hg hc hu hur hj hus
      obtain ⟨QA, hQA⟩ : ∃ Q, wrap64 PA = Q := ⟨_, rfl⟩
      obtain ⟨QB, hQB⟩ : ∃ Q, wrap64 PB = Q := ⟨_, rfl⟩
      obtain ⟨LA, hLA⟩ : ∃ Q, wrap64 (totA l.seq) = Q := ⟨_, rfl⟩
      obtain ⟨LB, hLB⟩ : ∃ Q, wrap64 (totB l.seq) = Q := ⟨_, rfl⟩
      have hQA' := hidden hQA
      have hQB' := hidden hQB
      have hLA' := hidden hLA
      have hLB' := hidden hLB
      simp only [hQA, hQB]
      rw [hLA, hLB] at S1
      show Code.wp _ _ _ ⟨#[_, _, _, _, _, _, _, .pointer (some ⟨b, 0, none⟩), _, _, _, _, _, _, _, _, _, _, _, _, _, _, _, _, _, _, _, _, _, _, _, _, _, _, _, _, _, _, _, _, _, _, _, _, _, _, _, _, _, _, _, _, _, _, _, _, _, _, _, _, _, _, _, _, _, _, _, _, _, _, _, _, _, _, _, _, _, _, _, _, _, _, _, _, _, _, _, _, _], _⟩ _
      clear hQA hQB hLA hLB
      go_upto_region 4 with (go_at_call 31; (with_reducible refine S1.out.mono ?_); rintro _ _ ⟨rfl, x1, rfl⟩)
      refine wp_region_ext (by kernel_rfl) (by kernel_rfl) ?_
      repeat (go_big_quiet_step (fail))
      rintro w3 ⟨x3, rfl⟩
      rw [ext_ext]
      generalize cat x1 x3 = y
      have hGy := hidden (HG.out.ext y)
      have hCy := hidden (blk_ext (x := y) HC.out)
      obtain ⟨XA, hXA⟩ : ∃ Q, wrap64 (wrap64 (QA + LA) + g.ga) = Q := ⟨_, rfl⟩
      obtain ⟨XB, hXB⟩ : ∃ Q, wrap64 (wrap64 (QB + LB) + g.gb) = Q := ⟨_, rfl⟩
      have eXA := hidden (show XA = wrap64 (PA + totA l.seq + g.ga) by rw [← hXA, ← hQA'.out, ← hLA'.out, wrap3])
      have eXB := hidden (show XB = wrap64 (PB + totB l.seq + g.gb) by rw [← hXB, ← hQB'.out, ← hLB'.out, wrap3])
      simp only [hXA, hXB]
      clear hXA hXB
      by_cases h1 : j < l.sz
      · go_wp2_with (go_at_call 16; (with_reducible refine (CN.out _).mono ?_); rintro _ _ ⟨rfl, rfl⟩)
        obtain ⟨e1, e2⟩ := take_left (b := b) (g := g) (r := r) h1
        refine ⟨⟨l, j, PA, PB, rfl, rfl, by rw [hQA'.out], by rw [hQB'.out], h1, by omega, HU.out.2.1, by rw [HA.out, e1], by rw [HB.out, e1], by rw [← e2]; exact HP.out, hGy.out, hCy.out⟩, ?_⟩
        show htOf w l.ptr < htOf w (T.node b l g r).ptr
        rw [hm1, hm0]; omega
      by_cases h2 : j = l.sz
      · subst h2
        obtain ⟨e1, e2⟩ := take_mid (b := b) (g := g) (l := l) (r := r)
        have hpp := HP.out
        rw [e2] at hpp
        injection hpp with hpp
        go_wp2_with (go_at_call 16; (with_reducible refine (CN.out _).mono ?_); rintro _ _ ⟨rfl, rfl⟩)
        go_region
        go_wp2_with (fail)
        refine post_gen (fun W => Gr C w W ∧ W.heap[C]? = some (.cells #[.int .i64 XA, .int .i64 g.la, .int .i64 XB, .int .i64 g.lb] 41)) ⟨((((hGy.out.setCell (Nat.le_refl C) _).setCell (Nat.le_refl C) _).setCell (Nat.le_refl C) _).setCell (Nat.le_refl C) _).drew, by have := blk_set (blk_set (blk_set (blk_set hCy.out 0 (.int .i64 XA)) 1 (.int .i64 g.la)) 2 (.int .i64 XB)) 3 (.int .i64 g.lb); simpa [drew_heap] using this⟩ ?_
        rintro Wf ⟨hGf, hF⟩
        have f0 := cell_of_cells hF 0
        have f1 := cell_of_cells hF 1
        have f2 := cell_of_cells hF 2
        have f3 := cell_of_cells hF 3
        simp at f0 f1 f2 f3
        refine bodyPost_ret (v := .agg #[.int .i64 XA, .int .i64 g.la, .int .i64 XB, .int .i64 g.lb]) (by simp [results, Try.results14, go_sem, f0, f1, f2, f3]) rfl ⟨?_, by rw [← hC] at hGf; exact hGf.of⟩
        rw [← hpp, hunkOf, HA.out, HB.out, e1, eXA.out, eXB.out]
      · obtain ⟨k, rfl⟩ : ∃ k, j = l.sz + 1 + k := ⟨j - l.sz - 1, by omega⟩
        obtain ⟨e1, e2⟩ := take_right (b := b) (g := g) (l := l) (r := r) (k := k)
        go_wp2_with (go_at_call 16; (with_reducible refine (CN.out _).mono ?_); rintro _ _ ⟨rfl, rfl⟩)
        refine wp_region_ext (by kernel_rfl) (by kernel_rfl) ?_
        repeat (go_big_quiet_step (fail))
        rintro w3 ⟨x3, rfl⟩
        rw [ext_ext]
        generalize cat y x3 = z
        have hGz := hidden (HG.out.ext z)
        have hCz := hidden (blk_ext (x := z) HC.out)
        go_wp2_with (fail)
        refine ⟨⟨r, k, PA + totA l.seq + g.ga + g.la, PB + totB l.seq + g.gb + g.lb, rfl, ?_, ?_, ?_, by omega, by omega, HU.out.2.2, ?_, ?_, by rw [← e2]; exact HP.out, hGz.out, hCz.out⟩, ?_⟩
        · first | rfl | go_num
        · rw [eXA.out, wrap_add]
        · rw [eXB.out, wrap_add]
        · rw [HA.out, e1, totA_app, totA]; simp; omega
        · rw [HB.out, e1, totB_app, totB]; simp; omega
        show htOf w r.ptr < htOf w (T.node b l g r).ptr
        rw [hm2, hm0]; omega
end Go.Proofs.Qxb6500688a
