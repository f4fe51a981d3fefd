import Derived.Test.Qxb6500688aLeaf
namespace Go.Proofs.Qxb6500688a
open Go.RowKit Go.BigFrame
set_option linter.unusedSimpArgs false
attribute [local go_sem] ext_cell_if ext_frozen_if alloc_cell_if alloc_frozen_if ext_size ext_ext
theorem Try.info43 : (Try.prog.info? 43).map (fun i => (i.zero, i.size, i.bytes)) = some (some (.pointer none), 1, 8) := by kernel_rfl
theorem own_slice {w : World} {base : Nat} {e : TypeId} {size : Nat} {v : Value} {n : Nat} {xs : List Value} (h : w.ownsRow base e size v n xs) : ∃ a m c, v = .slice a m c := by
  obtain ⟨_, ⟨rfl, _⟩ | ⟨g, cap, cur, rfl, _⟩⟩ := h
  · exact ⟨_, _, _, rfl⟩
  · exact ⟨_, _, _, rfl⟩
/-- From the root down to number i. -/
def pathTo : T → Nat → List T
  | .nil, _ => []
  | .node b l g r, i => .node b l g r :: (if i < l.sz then pathTo l i else if i = l.sz then [] else pathTo r (i - l.sz - 1))
theorem pathTo_len (t : T) : ∀ i, (pathTo t i).length ≤ t.ht := by
  induction t with
  | nil => intro i; simp [pathTo]
  | node b l g r ihl ihr =>
    intro i
    simp only [pathTo, List.length_cons, T.ht]
    split
    · have := ihl i; omega
    · split
      · simp
      · have := ihr (i - l.sz - 1); omega
/-- A cursor: its variable and its path. -/
def Cu (A : Nat) (w : World) (cb ib : Nat) (ver : Int) (path : List T) (i a b c d : Int) : Prop :=
  ∃ pa pc, w.heap[cb]? = some (.cells #[.pointer (some ⟨ib, 0, none⟩), .int .u64 ver, .slice pa path.length pc, .int .i64 i, .int .i64 a, .int .i64 b, .int .i64 c, .int .i64 d] 49) ∧
    w.ownsRow A 43 1 (.slice pa path.length pc) path.length (path.map T.ptr)
set_option maxRecDepth 100000 in
set_option maxHeartbeats 1000000 in
theorem cursor_out (ib : Nat) (t : T) (ver i : Int) (w : World) (hx : Ix w ib t ver) (hi : i < 0 ∨ (t.sz : Int) ≤ i) :
    Calls Try.prog 7 #[.pointer (some ⟨ib, 0, none⟩), .int .i64 i] w fun e w' => e = .returned (.pointer (some ⟨w.heap.size, 0, none⟩)) ∧ Gr w.heap.size w w' ∧ Cu w.heap.size w' w.heap.size ib ver [] i 0 0 0 0 := by
  have c1 := cell_of_cells hx.cell 1
  have hiw := lt_of_cells hx.cell
  simp at c1
  have LN := hidden (fun o => len_any ib t ver (w.alloc o) (hx.gr ((Gr.refl w).alloc o)))
  clear hx
  go_enter Try.func7, Try.ntmps7
  by_cases h0 : i < 0
  · go_wp2
    go_ret
    exact ⟨rfl, (Gr.refl w).alloc _, none, 0, heap_new _ _, World.ownsRow_nil _ _ _ _⟩
  · have h1 : (t.sz : Int) ≤ i := by omega
    go_wp2_with (go_at_call 13; (with_reducible refine (LN.out _).mono ?_); rintro _ _ ⟨rfl, rfl⟩)
    go_ret
    exact ⟨rfl, (Gr.refl w).alloc _, none, 0, heap_new _ _, World.ownsRow_nil _ _ _ _⟩
set_option maxRecDepth 100000 in
set_option maxHeartbeats 1000000 in
theorem cursor_in (ib : Nat) (t : T) (ver : Int) (i : Nat) (p : Nat × G) (w : World) (hx : Ix w ib t ver) (hi : t.seq[i]? = some p) :
    Calls Try.prog 7 #[.pointer (some ⟨ib, 0, none⟩), .int .i64 i] w fun e w' => e = .returned (.pointer (some ⟨w.heap.size, 0, none⟩)) ∧ Gr w.heap.size w w' ∧
      Cu w.heap.size w' w.heap.size ib ver (pathTo t i) i (wrap64 (totA (t.seq.take i) + p.2.ga)) p.2.la (wrap64 (totB (t.seq.take i) + p.2.gb)) p.2.lb := by
  have c0 := cell_of_cells hx.cell 0
  have c1 := cell_of_cells hx.cell 1
  have hiw := lt_of_cells hx.cell
  simp at c0 c1
  have hisz : i < t.sz := by rw [← T.sz_seq]; exact (List.getElem?_eq_some_iff.1 hi).1
  have hsz := hx.sz
  have LN := hidden (fun o => len_any ib t ver (w.alloc o) (hx.gr ((Gr.refl w).alloc o)))
  have AT := hidden (fun o => at_any ib t ver i p (w.alloc o) (hx.gr ((Gr.refl w).alloc o)) hi)
  have HX := hidden hx
  obtain ⟨XA, hXA⟩ : ∃ Q, wrap64 (totA (t.seq.take i) + p.2.ga) = Q := ⟨_, rfl⟩
  obtain ⟨XB, hXB⟩ : ∃ Q, wrap64 (totB (t.seq.take i) + p.2.gb) = Q := ⟨_, rfl⟩
  simp only [hunkOf, hXA, hXB] at AT ⊢
  obtain ⟨C, hC⟩ : ∃ C, w.heap.size = C := ⟨_, rfl⟩
  obtain ⟨i0, hi0, ha, hb, hc⟩ := info_parts Try.info43
  have hth := t.ht_sz
  clear hx hi hXA hXB
  go_enter Try.func7, Try.ntmps7
  go_upto_region 5 with (first | (go_at_call 13; (with_reducible refine (LN.out _).mono ?_); rintro _ _ ⟨rfl, rfl⟩) | (go_at_call 14; (with_reducible refine (AT.out _).mono ?_); rintro _ _ ⟨rfl, x1, rfl⟩))
  refine wp_gen (fun W => Gr C w W ∧ W.heap[C]? = some (.cells #[.pointer (some ⟨ib, 0, none⟩), .int .u64 ver, .slice none 0 0, .int .i64 i, .int .i64 XA, .int .i64 p.2.la, .int .i64 XB, .int .i64 p.2.lb] 49)) ⟨?_, ?_⟩ ?_
  · rw [← hC]
    exact (((((((Gr.refl w).alloc _).ext x1).setCell (Nat.le_refl _) _).setCell (Nat.le_refl _) _).setCell (Nat.le_refl _) _).setCell (Nat.le_refl _) _)
  · have h0 : (ext (w.alloc (Obj.cells #[.pointer (some ⟨ib, 0, none⟩), .int .u64 ver, .slice none 0 0, .int .i64 i, .int .i64 0, .int .i64 0, .int .i64 0, .int .i64 0] 49)) x1).heap[C]? = _ := blk_ext (by rw [← hC]; exact heap_new _ _)
    have := blk_set (blk_set (blk_set (blk_set h0 4 (.int .i64 XA)) 5 (.int .i64 p.2.la)) 6 (.int .i64 XB)) 7 (.int .i64 p.2.lb)
    simpa using this
  clear c0 c1 LN AT
  clear x1
  rintro w1 ⟨hg1, hv1⟩
  have hx1 := HX.out.gr (by rw [hC]; exact hg1)
  have H1 := hidden (height_any t w1 hx1.rep)
  have HG1 := hidden hg1
  have HV1 := hidden hv1
  have c0 := cell_of_cells hx1.cell 0
  have v2 := cell_of_cells hv1 2
  have vm := mark_of_cells hv1
  have hCw := lt_of_cells hv1
  simp at c0 v2
  clear hg1 hv1 hx1
  go_wp2_with (first | (go_at_call 15; (with_reducible refine H1.out.mono ?_); rintro _ w1 ⟨rfl, rfl⟩) | (at_make; refine wpList_make_own _ rfl _ _ 47 rfl C 43 i0 (.pointer none) 1 Try.underlying47 hi0 ha hb .i64 .i64 (t.ht : Int) t.ht rfl rfl rfl (by rw [hc]; omega) (by unfold maxLen; omega) HG1.out.2 ?_))
  intro w2 hown2 hgrow2
  obtain ⟨R, hR⟩ : ∃ R, w1.heap.size = R := ⟨_, rfl⟩
  rw [hR] at hown2 ⊢
  have hv2 : w2.heap[C]? = _ := (hgrow2.block C hCw (by simp)).trans HV1.out
  have hg2 : Gr C w w2 := HG1.out.grown hgrow2 (by simp)
  have hx2 := HX.out.gr (by rw [hC]; exact hg2)
  have c0' := cell_of_cells hx2.cell 0
  have u2 := cell_of_cells hv2 2
  have um := mark_of_cells hv2
  simp at c0' u2
  have hRC : ¬ R = C := by omega
  have HO2 := hidden hown2
  have HV2 := hidden hv2
  have HG2 := hidden hg2
  clear hown2 hgrow2 hv2 hg2 hx2 c0 v2 vm H1 HG1 HV1
  have hibC : ¬ C = ib := by omega
  go_wp2_with (fail)
  go_loopw [1, 6] (fun s1 s6 wi => ∃ (u : T) (j : Nat) (dn : List T) (pa : Option Addr) (pc : Nat), s6 = u.ptr ∧ s1 = .int .i64 j ∧ j < u.sz ∧ u.sz ≤ 2048 ∧ u.Rep w ∧ pathTo t i = dn ++ pathTo u j ∧ Gr C w wi ∧
      wi.heap[C]? = some (.cells #[.pointer (some ⟨ib, 0, none⟩), .int .u64 ver, .slice pa dn.length pc, .int .i64 i, .int .i64 XA, .int .i64 p.2.la, .int .i64 XB, .int .i64 p.2.lb] 49) ∧ wi.ownsRow C 43 1 (.slice pa dn.length pc) dn.length (dn.map T.ptr)) (fun _ s6 _ => htOf w s6)
  case atStart =>
    refine ⟨t, i, [], some ⟨R, 0, none⟩, t.ht, rfl, rfl, hisz, hsz, HX.out.rep, rfl, HG2.out.setCell (Nat.le_refl C) _, ?_, ?_⟩
    · have := blk_set HV2.out 2 (.slice (some ⟨R, 0, none⟩) 0 t.ht)
      simpa using this
    · exact own_move HO2.out fun g hg => blk_far (by simp [Value.ownBlock] at hg; omega) _ _
  case round =>
    clear c0' u2 um HO2 HV2 HG2 hRC hR hCw
    clear w2 w1
    obtain ⟨u, j, dn, pa, pc, rfl, rfl, hj, hus, hu, hpt, hg, hv, ho⟩ := hrel
    have HPT := hidden hpt
    have hdl : dn.length ≤ 2048 := by
      have h1 := pathTo_len t i
      rw [hpt] at h1
      simp at h1
      omega
    cases u with
    | nil => simp [T.sz] at hj
    | node b l g r =>
      have HG := hidden hg
      have HV := hidden hv
      have HO := hidden ho
      have HU := hidden hu
      have v2 := cell_of_cells hv 2
      have hCw := lt_of_cells hv
      simp at v2
      have hm1 : htOf w l.ptr = l.ht := htOf_rep hu.2.1
      have hm2 : htOf w r.ptr = r.ht := htOf_rep hu.2.2
      have hm0 : htOf w (T.node b l g r).ptr = 1 + max l.ht r.ht := htOf_rep hu
      have hj' : j < l.sz + 1 + r.sz := hj
      have hus' : l.sz + 1 + r.sz ≤ 2048 := hus
      show Code.wp _ _ _ ⟨#[_, _, _, _, _, _, .pointer (some ⟨b, 0, none⟩), _, _, _, _, _, _, _, _, _, _, _, _, _, _, _, _, _, _, _, _, _, _, _, _, _, _, _, _, _, _, _, _, _, _, _, _, _, _, _, _, _, _, _, _, _, _, _, _, _, _, _, _, _, _, _, _, _, _, _, _, _, _, _, _, _, _, _, _, _, _, _, _, _], _⟩ _
      clear hpt hg hv ho hu hj hus
      go_wp2_with (at_builtin; refine wpList_append_at rfl (.tmp 48) (.tmp 50) 47 rfl C 43 i0 (.pointer none) 1 8 Try.underlying47 hi0 ha hb hc rfl (by decide) (.slice pa dn.length pc) dn.length (dn.map T.ptr) (by simp [Act.eval]) (HO.out.alloc _) ⟨wr.heap.size, 0, none⟩ 1 1 [.pointer (some ⟨b, 0, none⟩)] (by simp [Act.eval]) rfl (by intro j u hj; rcases j with _ | j <;> simp at hj; subst hj; simp [Addr.add]) (by intro u hu; simp at hu; subst hu; rfl) (by unfold maxLen; omega) (by omega) (by simp; omega) ?_)
      intro v' w3 hown3 hgrow3 _
      obtain ⟨qa, qn, qc, rfl⟩ := own_slice hown3
      obtain rfl : qn = dn.length + 1 := own_len hown3
      have hnC : some C ≠ (Value.slice pa dn.length pc).ownBlock := own_not HO.out HV.out (by decide)
      have hv3 : w3.heap[C]? = _ := (hgrow3.block C (by simp; omega) hnC).trans (blk_alloc HV.out)
      have y2 := cell_of_cells hv3 2
      have ym := mark_of_cells hv3 2
      simp at y2
      have hnC' : some C ≠ (Value.slice qa (dn.length + 1) qc).ownBlock := own_not hown3 hv3 (by decide)
      have hg3 : Gr C w (w3.setCell ⟨C, 2, none⟩ (.slice qa (dn.length + 1) qc)) := ((HG.out.alloc _).grown hgrow3 (fun k hk => ownBlock_ge HO.out k hk)).setCell (Nat.le_refl C) _
      have hv4 : (w3.setCell ⟨C, 2, none⟩ (.slice qa (dn.length + 1) qc)).heap[C]? = some (.cells #[.pointer (some ⟨ib, 0, none⟩), .int .u64 ver, .slice qa (dn.length + 1) qc, .int .i64 i, .int .i64 XA, .int .i64 p.2.la, .int .i64 XB, .int .i64 p.2.lb] 49) := by
        have := blk_set hv3 2 (.slice qa (dn.length + 1) qc)
        simpa using this
      have ho4 : (w3.setCell ⟨C, 2, none⟩ (.slice qa (dn.length + 1) qc)).ownsRow C 43 1 (.slice qa (dn.length + 1) qc) (dn.length + 1) ((dn ++ [T.node b l g r]).map T.ptr) := by
        have := own_move (w' := w3.setCell ⟨C, 2, none⟩ (.slice qa (dn.length + 1) qc)) hown3 fun k hk => blk_far (fun e => hnC' (by rw [hk, e])) _ _
        simpa [T.ptr] using this
      have HG3 := hidden hg3
      have HV4 := hidden hv4
      have HO4 := hidden ho4
      clear hown3 hgrow3 hv3 hg3 hv4 ho4 hnC hnC' HG HV HO v2
      go_upto_region 8 with (fail)
      refine wp_gen (fun W => Gr C w W ∧ W.heap[C]? = some (.cells #[.pointer (some ⟨ib, 0, none⟩), .int .u64 ver, .slice qa (dn.length + 1) qc, .int .i64 i, .int .i64 XA, .int .i64 p.2.la, .int .i64 XB, .int .i64 p.2.lb] 49) ∧ W.ownsRow C 43 1 (.slice qa (dn.length + 1) qc) (dn.length + 1) ((dn ++ [T.node b l g r]).map T.ptr)) ⟨HG3.out, HV4.out, HO4.out⟩ ?_
      clear HG3 HV4 HO4 y2 ym
      rintro w4 ⟨hg, hv, ho⟩
      have hur : (T.node b l g r).Rep w4 := HU.out.keep fun k hk => hg.1.block k (by have := HU.out.lt k hk; omega)
      obtain ⟨d0, d1⟩ := row_cells hur.1
      have CN := hidden (count_any l w4 hur.2.1)
      have HG := hidden hg
      have HV := hidden hv
      have HO := hidden ho
      clear hg hv ho hur
      by_cases h1 : j < l.sz
      · go_wp2_with (go_at_call 16; (with_reducible refine CN.out.mono ?_); rintro _ w4 ⟨rfl, rfl⟩)
        refine ⟨⟨l, j, dn ++ [T.node b l g r], qa, qc, rfl, rfl, h1, by omega, HU.out.2.1, ?_, HG.out, by simpa using HV.out, by simpa using HO.out⟩, ?_⟩
        · rw [HPT.out]; simp [pathTo, h1]
        · show htOf w l.ptr < htOf w (T.node b l g r).ptr
          rw [hm1, hm0]; omega
      by_cases h2 : j = l.sz
      · subst h2
        go_wp2_with (go_at_call 16; (with_reducible refine CN.out.mono ?_); rintro _ w4 ⟨rfl, rfl⟩)
        go_ret
        refine ⟨by rw [hC]; rfl, by rw [hC]; exact HG.out, qa, qc, ?_, ?_⟩
        · rw [hC, HPT.out]; simpa [pathTo] using HV.out
        · rw [hC, HPT.out]; simpa [pathTo] using HO.out
      · obtain ⟨k, rfl⟩ : ∃ k, j = l.sz + 1 + k := ⟨j - l.sz - 1, by omega⟩
        go_wp2_with (go_at_call 16; (with_reducible refine CN.out.mono ?_); rintro _ w4 ⟨rfl, rfl⟩)
        refine ⟨⟨r, k, dn ++ [T.node b l g r], qa, qc, rfl, ?_, by omega, by omega, HU.out.2.2, ?_, HG.out, by simpa using HV.out, by simpa using HO.out⟩, ?_⟩
        · first | rfl | go_num
        · rw [HPT.out]; simp [pathTo, show ¬ l.sz + 1 + k < l.sz by omega, show ¬ l.sz + 1 + k = l.sz by omega, show l.sz + 1 + k - l.sz - 1 = k by omega]
        · show htOf w r.ptr < htOf w (T.node b l g r).ptr
          rw [hm2, hm0]; omega
end Go.Proofs.Qxb6500688a
