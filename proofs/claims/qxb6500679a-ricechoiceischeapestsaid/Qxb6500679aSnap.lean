import Derived.Test.Qxb6500679aCopy
namespace Go.Proofs.Qxb6500679a
open Go.RowKit Go.BigFrame
set_option linter.unusedSimpArgs false
attribute [local go_sem] ext_cell_if ext_frozen_if alloc_cell_if alloc_frozen_if ext_size ext_ext
theorem Try.info47 : (Try.prog.info? 47).map (fun i => (i.zero, i.size, i.bytes)) = some (some (.agg #[.int .u8 0, .int .i64 0, .int .i64 0, .int .i64 0]), 4, 32) := by kernel_rfl
theorem Try.info30 : (Try.prog.info? 30).map (fun i => (i.zero, i.size, i.bytes)) = some (some (.agg #[.slice none 0 0, .slice none 0 0, .int .u64 0, .slice none 0 0, .int .i64 0]), 5, 88) := by kernel_rfl
theorem I32.one {u : Value} (h : I32 u) : u.oneCell' = true := by obtain ⟨x, rfl, _⟩ := h; rfl
theorem I16.one {u : Value} (h : I16 u) : u.oneCell' = true := by obtain ⟨x, rfl, _⟩ := h; rfl
theorem new_cell (W : World) (cs : Array Value) (t s : Nat) (hs : s = W.heap.size) (j : Nat) : (W.alloc (.cells cs t)).cell? ⟨s, j, none⟩ = cs[j]? := by
  subst hs
  exact cell_of_cells (heap_new _ _) j
theorem Bench.snap {A N : Nat} {w0 w W w1 : World} {q : Bn} {ob : Obj} {v1 v2 : Value} {ea oa' : Option Addr} {en ec on' oc' : Nat} {mo : Int} (h : Bench A N w0 w q)
    (hgr : Gr A w0 W) (hkp : ∀ g, g < w.heap.size → W.heap[g]? = w.heap[g]?) (hS : w.heap.size ≤ W.heap.size) (hmo : -9223372036854775808 ≤ mo ∧ mo ≤ 9223372036854775807)
    (own1 : W.ownsRow w.heap.size 21 1 v1 q.bn q.xs) (own2 : W.ownsRow w.heap.size 50 1 v2 q.cn q.ys)
    (hown' : w1.ownsRow (A + 2) 30 5 (.slice oa' on' oc') (q.on + 1) (q.os ++ [v1, v2, .int .u64 q.sh, .slice ea en ec, .int .i64 mo]))
    (hgrow : (W.alloc ob).grownBy w1 (Value.slice q.oa q.on q.oc).ownBlock) :
    Bench A (N + 1) w0 (w1.setCell ⟨A, 0, none⟩ (.slice oa' on' oc')) { q with oa := oa', on := on', oc := oc', os := q.os ++ [v1, v2, .int .u64 q.sh, .slice ea en ec, .int .i64 mo] } := by
  have hn : on' = q.on + 1 := own_len hown'
  subst hn
  have hA : A + 1 < w.heap.size := lt_of_cells h.vb
  have hW : ∀ g, g < W.heap.size → some g ≠ (Value.slice q.oa q.on q.oc).ownBlock → g ≠ A → (w1.setCell ⟨A, 0, none⟩ (.slice oa' (q.on + 1) oc')).heap[g]? = W.heap[g]? := fun g hg h1 h2 => by
    rw [blk_far h2, hgrow.block g (by simp; omega) h1]
    exact Below.heap_alloc W ob g hg
  have hk : ∀ g, g < w.heap.size → some g ≠ (Value.slice q.oa q.on q.oc).ownBlock → g ≠ A → (w1.setCell ⟨A, 0, none⟩ (.slice oa' (q.on + 1) oc')).heap[g]? = w.heap[g]? := fun g hg h1 h2 => by
    rw [hW g (by omega) h1 h2, hkp g hg]
  have hnA : ∀ g, g < A + 2 → some g ≠ (Value.slice q.oa q.on q.oc).ownBlock := fun g hg => own_ne h.oo hg
  have mv : ∀ {e size n : Nat} {v : Value} {xs : List Value}, w.ownsRow (A + 2) e size v n xs → e ≠ 30 → (w1.setCell ⟨A, 0, none⟩ (.slice oa' (q.on + 1) oc')).ownsRow (A + 2) e size v n xs := fun hr hne =>
    own_move hr fun g hg => hk g (hr.lt g hg).2 (own_apart hr h.oo hne g hg) (by have := (hr.lt g hg).1; omega)
  have mW : ∀ {e size n : Nat} {v : Value} {xs : List Value}, W.ownsRow w.heap.size e size v n xs → (w1.setCell ⟨A, 0, none⟩ (.slice oa' (q.on + 1) oc')).ownsRow (A + 2) e size v n xs := fun hr =>
    own_mono (own_move hr fun g hg => hW g (hr.lt g hg).2 (fun e => by
      have h1 := (hr.lt g hg).1
      have h2 := (h.oo.lt g e.symm).2
      omega) (by have := (hr.lt g hg).1; omega)) (by omega)
  refine ⟨?_, ?_, ?_, h.sh0, h.bl, mv h.ob (by decide), h.ib, h.cl, mv h.oc (by decide), h.ic, h.el, mv h.oe (by decide), h.ie, by have := h.nl; simp; omega, ?_, ?_⟩
  · exact ((hgr.alloc ob).grown hgrow (fun k hk => by have := ownBlock_ge h.oo k hk; omega)).setCell (by show A ≤ A; omega) _
  · have hv1 : w1.heap[A]? = w.heap[A]? := by
      rw [hgrow.block A (by simp; omega) (hnA _ (by omega)), ← hkp A (by omega)]
      exact Below.heap_alloc W ob _ (by omega)
    have := blk_set (hv1.trans h.vo) 0 (.slice oa' (q.on + 1) oc')
    simpa using this
  · rw [hk (A + 1) (by omega) (hnA _ (by omega)) (by omega)]; exact h.vb
  · refine own_move hown' fun g hg => blk_far ?_ _ _
    have := ownBlock_ge hown' g hg
    omega
  · have hlen : q.os.length = q.on * 5 := h.oo.1
    intro i hi
    simp only at hi ⊢
    by_cases hin : i < q.on
    · obtain ⟨sb, sc, ea, sbn, scn, en, ec, sh, mo, xs, ys, h1, h2, h3, h4', h5, h6, h7, h8, h9, h10, h11, h12, h13, h14, h15⟩ := h.sn i hin
      exact ⟨sb, sc, ea, sbn, scn, en, ec, sh, mo, xs, ys, by rw [List.getElem?_append_left (by omega)]; exact h1, by rw [List.getElem?_append_left (by omega)]; exact h2, by rw [List.getElem?_append_left (by omega)]; exact h3, by rw [List.getElem?_append_left (by omega)]; exact h4', by rw [List.getElem?_append_left (by omega)]; exact h5, h6, h7, h8, h9, mv h10 (by decide), h11, h12, mv h13 (by decide), h14, h15⟩
    · obtain rfl : i = q.on := by omega
      have ap : ∀ {v v' : Value} {e e' n n' : Nat} {xs xs' : List Value}, W.ownsRow w.heap.size e 1 v n xs → w.ownsRow (A + 2) e' 1 v' n' xs' → Apart v v' := fun {v v' e e' n n' xs xs'} ha hb => by
        cases hv : v.ownBlock with
        | none => exact .inl hv
        | some k =>
          refine .inr fun e => ?_
          rw [hv] at e
          have h1 := (ha.lt k hv).1
          have h2 := (hb.lt k e.symm).2
          omega
      refine ⟨v1, v2, ea, q.bn, q.cn, en, ec, q.sh, mo, q.xs, q.ys, ?_, ?_, ?_, ?_, ?_, h.sh0, hmo, h.bl, h.cl, mW own1, h.ib, ap own1 h.ob, mW own2, h.ic, ap own2 h.oc⟩
      all_goals (rw [List.getElem?_append_right (by omega)]; simp [hlen])
set_option maxRecDepth 100000 in
set_option maxHeartbeats 400000 in
theorem snapshot_any (A N : Nat) (w0 w : World) (q : Bn) (n : Int) (h : Bench A N w0 w q) (hN : N ≤ 70000) :
    Calls Try.prog 15 #[.int .i64 n, .pointer (some ⟨A + 1, 0, none⟩), .pointer (some ⟨A, 0, none⟩)] w fun e w' => e = .returned (.tuple #[]) ∧ ∃ q', Bench A (N + 1) w0 w' q' := by
  have H := hidden h
  have c0 := cell_of_cells h.vb 0
  have c1 := cell_of_cells h.vb 1
  have c2 := cell_of_cells h.vb 2
  have c3 := cell_of_cells h.vb 3
  have c4 := cell_of_cells h.vb 4
  have hbl := h.bl
  have hcl := h.cl
  have hel := h.el
  simp at c0 c1 c2 c3 c4
  have hA : A + 1 < w.heap.size := lt_of_cells h.vb
  obtain ⟨i1, hi1, ha1, hb1, hc1⟩ := info_parts Try.info21
  obtain ⟨i5, hi5, ha5, hb5, hc5⟩ := info_parts Try.info50
  obtain ⟨i7, hi7, ha7, hb7, hc7⟩ := info_parts Try.info47
  obtain ⟨i3, hi3, ha3, hb3, hc3⟩ := info_parts Try.info30
  clear h
  go_enter Try.func15, Try.ntmps15
  go_wp2_with (at_builtin; refine wpList_append_copy rfl (.const (.slice none 0 0)) (.tmp 7) 26 rfl (A + 2) 21 i1 (.int .i32 0) 1 4 Try.underlying26 hi1 ha1 hb1 hc1 rfl (by decide) rfl (.slice q.ba q.bn q.bc) q.bn q.xs (by simp [Act.eval]) (H.out.ob.alloc _) (fun u hu => (H.out.ib u hu).one) (by unfold maxLen; omega) (by omega) ?_)
  intro v1 w1 hown1 hgrow1
  obtain ⟨S, hS⟩ : ∃ S, w.heap.size = S := ⟨_, rfl⟩
  have hkp1 : ∀ g, g < S → w1.heap[g]? = w.heap[g]? := fun g hg => by
    rw [hgrow1.block g (by simp; omega) (by simp)]
    exact Below.heap_alloc _ _ _ (by omega)
  have hC1 : w1.heap[S]? = some (.cells #[.slice q.ba q.bn q.bc, .slice q.ca q.cn q.cc, .int .u64 q.sh, .slice q.ea q.en q.ec, .int .i64 0] 30) := by
    rw [hgrow1.block S (by simp; omega) (by simp), ← hS]
    exact heap_new _ _
  have hgr1 : Gr A w0 w1 := (H.out.gr.alloc _).grown hgrow1 (by simp)
  obtain ⟨a1, n1, d1, rfl⟩ := own_slice hown1
  obtain rfl : n1 = q.bn := own_len hown1
  have hsz1 : S < w1.heap.size := lt_of_cells hC1
  have HO1 := hidden (show w1.ownsRow S 21 1 _ _ _ from own_mono hown1 (by rw [← hS]; simp))
  have e0 := cell_of_cells hC1 0
  have m1 := mark_of_cells hC1
  have b1 := (World.cell?_of_block (a := ⟨A + 1, 1, none⟩) (hkp1 (A + 1) (by omega))).trans c1
  simp at e0
  rw [hS]
  have hSA : ¬ S = A + 1 := by omega
  have hoc1 : ∀ u, (w1.setCell ⟨S, 0, none⟩ u).ownsRow (A + 2) 50 1 (.slice q.ca q.cn q.cc) q.cn q.ys := fun u => own_move H.out.oc fun g hg => by
    have := (H.out.oc.lt g hg).2
    rw [blk_far (by omega)]; exact hkp1 g (by omega)
  have HC1 := hidden hoc1
  clear hown1 hgrow1 hoc1 c0 c1
  go_wp2_with (at_builtin; refine wpList_append_copy rfl (.const (.slice none 0 0)) (.tmp 11) 27 rfl (A + 2) 50 i5 (.int .i16 0) 1 2 Try.underlying27 hi5 ha5 hb5 hc5 rfl (by decide) rfl (.slice q.ca q.cn q.cc) q.cn q.ys (by simp [Act.eval]) (HC1.out _) (fun u hu => (H.out.ic u hu).one) (by unfold maxLen; omega) (by omega) ?_)
  intro v2 w2 hown2 hgrow2
  obtain ⟨a2, n2, d2, rfl⟩ := own_slice hown2
  obtain rfl : n2 = q.cn := own_len hown2
  have hkp2 : ∀ g, g < S → w2.heap[g]? = w.heap[g]? := fun g hg => by
    rw [hgrow2.block g (by simp; omega) (by simp), blk_far (by omega)]
    exact hkp1 g hg
  have hC2 : w2.heap[S]? = some (.cells #[.slice a1 q.bn d1, .slice q.ca q.cn q.cc, .int .u64 q.sh, .slice q.ea q.en q.ec, .int .i64 0] 30) := by
    rw [hgrow2.block S (by simp; omega) (by simp)]
    have := blk_set hC1 0 (.slice a1 q.bn d1)
    simpa using this
  have hgr2 : Gr A w0 w2 := (hgr1.setCell (by show A ≤ S; omega) _).grown hgrow2 (by simp)
  have hsz2 : S < w2.heap.size := lt_of_cells hC2
  have HO2 := hidden (show w2.ownsRow S 50 1 _ _ _ from own_mono hown2 (by omega))
  have hne1 : ∀ g, (Value.slice a1 q.bn d1).ownBlock = some g → S < g ∧ g < w1.heap.size := fun g hg => by
    have := HO1.out.lt g hg
    have h3 := own_not HO1.out hC1 (by decide)
    rw [hg] at h3
    simp at h3
    omega
  have HB2 := hidden (show w2.ownsRow S 21 1 _ _ _ from own_move HO1.out fun g hg => by
    have := hne1 g hg
    rw [hgrow2.block g (by simp; omega) (by simp), blk_far (by omega)])
  have f1 := cell_of_cells hC2 1
  have m2 := mark_of_cells hC2
  have b2 := (World.cell?_of_block (a := ⟨A + 1, 3, none⟩) (hkp2 (A + 1) (by omega))).trans c3
  simp at f1
  have hoe2 : ∀ u, (w2.setCell ⟨S, 1, none⟩ u).ownsRow (A + 2) 47 4 (.slice q.ea q.en q.ec) q.en q.zs := fun u => own_move H.out.oe fun g hg => by
    have := (H.out.oe.lt g hg).2
    rw [blk_far (by omega)]; exact hkp2 g (by omega)
  have HE2 := hidden hoe2
  clear hown2 hgrow2 hoe2 HC1 e0 m1 b1 c3
  go_wp2_with (at_builtin; refine wpList_append_copy rfl (.const (.slice none 0 0)) (.tmp 15) 22 rfl (A + 2) 47 i7 (.agg #[.int .u8 0, .int .i64 0, .int .i64 0, .int .i64 0]) 4 32 Try.underlying22 hi7 ha7 hb7 hc7 rfl (by decide) rfl (.slice q.ea q.en q.ec) q.en q.zs (by simp [Act.eval]) (HE2.out _) (fun u hu => (H.out.ie u hu)) (by unfold maxLen; omega) (by omega) ?_)
  intro v3 w3 hown3 hgrow3
  obtain ⟨a3, n3, d3, rfl⟩ := own_slice hown3
  obtain rfl : n3 = q.en := own_len hown3
  have hkp3 : ∀ g, g < S → w3.heap[g]? = w.heap[g]? := fun g hg => by
    rw [hgrow3.block g (by simp; omega) (by simp), blk_far (by omega)]
    exact hkp2 g hg
  have hC3 : w3.heap[S]? = some (.cells #[.slice a1 q.bn d1, .slice a2 q.cn d2, .int .u64 q.sh, .slice q.ea q.en q.ec, .int .i64 0] 30) := by
    rw [hgrow3.block S (by simp; omega) (by simp)]
    have := blk_set hC2 1 (.slice a2 q.cn d2)
    simpa using this
  have hgr3 : Gr A w0 w3 := (hgr2.setCell (by show A ≤ S; omega) _).grown hgrow3 (by simp)
  have hsz3 : S < w3.heap.size := lt_of_cells hC3
  have hne2 : ∀ g, (Value.slice a2 q.cn d2).ownBlock = some g → S < g ∧ g < w2.heap.size := fun g hg => by
    have := HO2.out.lt g hg
    have h3 := own_not HO2.out hC2 (by decide)
    rw [hg] at h3
    simp at h3
    omega
  have hne3 : ∀ g, (Value.slice a1 q.bn d1).ownBlock = some g → S < g ∧ g < w2.heap.size := fun g hg => by
    have := HB2.out.lt g hg
    have h3 := own_not HB2.out hC2 (by decide)
    rw [hg] at h3
    simp at h3
    omega
  have HB3 := hidden (show w3.ownsRow S 21 1 _ _ _ from own_move HB2.out fun g hg => by
    have := hne3 g hg
    rw [hgrow3.block g (by simp; omega) (by simp), blk_far (by omega)])
  have HO3 := hidden (show w3.ownsRow S 50 1 _ _ _ from own_move HO2.out fun g hg => by
    have := hne2 g hg
    rw [hgrow3.block g (by simp; omega) (by simp), blk_far (by omega)])
  have f0 := cell_of_cells hC3 0
  have f1 := cell_of_cells hC3 1
  have f2 := cell_of_cells hC3 2
  have f3 := cell_of_cells hC3 3
  have f4 := cell_of_cells hC3 4
  have m3 := mark_of_cells hC3
  have hSa : ¬ S = A := by omega
  have b3 := (World.cell?_of_block (a := ⟨A, 0, none⟩) (hkp3 A (by omega))).trans (by simpa using cell_of_cells H.out.vo 0)
  have m3a := mark_of_cells (((hkp3 A (by omega))).trans H.out.vo) 0
  have f1' := f1
  simp at f0 f1' f2 f3 f4
  clear hown3 hgrow3 HE2 f1 m2 b2
  have hne4 : ∀ g, (Value.slice a2 q.cn d2).ownBlock = some g → S < g := fun g hg => (hne2 g hg).1
  have hne5 : ∀ g, (Value.slice a1 q.bn d1).ownBlock = some g → S < g := fun g hg => (hne3 g hg).1
  obtain ⟨g0, g1⟩ := tmod_bd n 43 (by decide)
  obtain ⟨k0, k1⟩ := tmod_bd n 4 (by decide)
  have hnl := H.out.nl
  by_cases hn0 : 0 ≤ n
  · obtain ⟨m, hm⟩ : ∃ m, n.tmod 43 = m := ⟨_, rfl⟩
    have hm' : n % 43 = m := by rw [← hm]; exact (Int.tmod_eq_emod_of_nonneg hn0).symm
    rw [hm] at g0 g1
    clear k0 k1
    go_wp2_with (first | (at_builtin; refine wpList_append_at rfl (.tmp 28) (.tmp 30) 24 rfl (A + 2) 30 i3 (.agg #[.slice none 0 0, .slice none 0 0, .int .u64 0, .slice none 0 0, .int .i64 0]) 5 88 Try.underlying24 hi3 ha3 hb3 hc3 rfl (by decide) (.slice q.oa q.on q.oc) q.on q.os (by simp [Act.eval]) (by refine World.ownsRow.alloc (own_move H.out.oo fun g hg => ?_) _; have := (H.out.oo.lt g hg).2; (repeat rw [blk_far (by omega)]); exact hkp3 g (by omega)) ⟨w3.heap.size, 0, none⟩ 1 1 [.slice a1 q.bn d1, .slice a2 q.cn d2, .int .u64 q.sh, .slice a3 q.en d3, .int .i64 (m - 3)] (by simp [Act.eval]) rfl (by intro j u hj; rw [show (⟨w3.heap.size, 0, none⟩ : Addr).add j = ⟨w3.heap.size, j, none⟩ by (simp [Addr.add] <;> omega)]; rw [new_cell _ _ _ _ (by simp)]; simpa using hj) (by intro u hu; simp at hu; rcases hu with rfl | rfl | rfl | rfl | rfl <;> rfl) (by unfold maxLen; omega) (by omega) (by simp; omega) ?_))
    intro v' w4 hown4 hgrow4 _
    obtain ⟨a4, n4, d4, rfl⟩ := own_slice hown4
    have hA4 : w4.heap[A]? = w.heap[A]? := by
      rw [hgrow4.block A (by simp; omega) (own_ne H.out.oo (by omega))]
      rw [Below.heap_alloc _ _ _ (by simp; omega)]
      (repeat rw [blk_far (by omega)])
      exact hkp3 A (by omega)
    have j0 := cell_of_cells (hA4.trans H.out.vo) 0
    have j1 := mark_of_cells (hA4.trans H.out.vo) 0
    simp at j0
    have hkp5 : ∀ g, g < w.heap.size → ((w3.setCell ⟨S, 3, none⟩ (.slice a3 q.en d3)).setCell ⟨S, 4, none⟩ (.int .i64 (m - 3))).heap[g]? = w.heap[g]? := fun g hg => by
      (repeat rw [blk_far (by omega)])
      exact hkp3 g (by omega)
    go_wp2
    refine bodyPost_end (results_none rfl _ _ _) rfl ⟨rfl, _, H.out.snap (W := ((w3.setCell ⟨S, 3, none⟩ (.slice a3 q.en d3)).setCell ⟨S, 4, none⟩ (.int .i64 (m - 3)))) (by repeat (first | exact hgr3 | refine Gr.setCell ?_ (by show A ≤ S; omega) _)) hkp5 (by simp; omega) (by omega) (by rw [hS]; exact own_move HB3.out fun g hg => by have := hne5 g hg; (repeat rw [blk_far (by omega)])) (by rw [hS]; exact own_move HO3.out fun g hg => by have := hne4 g hg; (repeat rw [blk_far (by omega)])) hown4 hgrow4⟩
  · obtain ⟨m, hm⟩ : ∃ m, n.tmod 43 = m := ⟨_, rfl⟩
    obtain ⟨k, hk⟩ : ∃ m, n.tmod 4 = m := ⟨_, rfl⟩
    rw [hm] at g0 g1
    rw [hk] at k0 k1
    have f5 : (((w3.setCell ⟨S, 3, none⟩ (.slice a3 q.en d3)).setCell ⟨S, 4, none⟩ (.int .i64 (m - 3))).setCell ⟨S, 4, none⟩ (.int .i64 (-k))).cell? ⟨S, 4, none⟩ = some (.int .i64 (-k)) := by
      have := cell_of_cells (blk_set (blk_set (blk_set hC3 3 (.slice a3 q.en d3)) 4 (.int .i64 (m - 3))) 4 (.int .i64 (-k))) 4
      simpa using this
    go_wp2_with (first | (at_builtin; refine wpList_append_at rfl (.tmp 28) (.tmp 30) 24 rfl (A + 2) 30 i3 (.agg #[.slice none 0 0, .slice none 0 0, .int .u64 0, .slice none 0 0, .int .i64 0]) 5 88 Try.underlying24 hi3 ha3 hb3 hc3 rfl (by decide) (.slice q.oa q.on q.oc) q.on q.os (by simp [Act.eval]) (by refine World.ownsRow.alloc (own_move H.out.oo fun g hg => ?_) _; have := (H.out.oo.lt g hg).2; (repeat rw [blk_far (by omega)]); exact hkp3 g (by omega)) ⟨w3.heap.size, 0, none⟩ 1 1 [.slice a1 q.bn d1, .slice a2 q.cn d2, .int .u64 q.sh, .slice a3 q.en d3, .int .i64 (-k)] (by simp [Act.eval]) rfl (by intro j u hj; rw [show (⟨w3.heap.size, 0, none⟩ : Addr).add j = ⟨w3.heap.size, j, none⟩ by (simp [Addr.add] <;> omega)]; rw [new_cell _ _ _ _ (by simp)]; simpa using hj) (by intro u hu; simp at hu; rcases hu with rfl | rfl | rfl | rfl | rfl <;> rfl) (by unfold maxLen; omega) (by omega) (by simp; omega) ?_))
    intro v' w4 hown4 hgrow4 _
    obtain ⟨a4, n4, d4, rfl⟩ := own_slice hown4
    have hA4 : w4.heap[A]? = w.heap[A]? := by
      rw [hgrow4.block A (by simp; omega) (own_ne H.out.oo (by omega))]
      rw [Below.heap_alloc _ _ _ (by simp; omega)]
      (repeat rw [blk_far (by omega)])
      exact hkp3 A (by omega)
    have j0 := cell_of_cells (hA4.trans H.out.vo) 0
    have j1 := mark_of_cells (hA4.trans H.out.vo) 0
    simp at j0
    have hkp5 : ∀ g, g < w.heap.size → (((w3.setCell ⟨S, 3, none⟩ (.slice a3 q.en d3)).setCell ⟨S, 4, none⟩ (.int .i64 (m - 3))).setCell ⟨S, 4, none⟩ (.int .i64 (-k))).heap[g]? = w.heap[g]? := fun g hg => by
      (repeat rw [blk_far (by omega)])
      exact hkp3 g (by omega)
    go_wp2
    refine bodyPost_end (results_none rfl _ _ _) rfl ⟨rfl, _, H.out.snap (W := (((w3.setCell ⟨S, 3, none⟩ (.slice a3 q.en d3)).setCell ⟨S, 4, none⟩ (.int .i64 (m - 3))).setCell ⟨S, 4, none⟩ (.int .i64 (-k)))) (by repeat (first | exact hgr3 | refine Gr.setCell ?_ (by show A ≤ S; omega) _)) hkp5 (by simp; omega) (by omega) (by rw [hS]; exact own_move HB3.out fun g hg => by have := hne5 g hg; (repeat rw [blk_far (by omega)])) (by rw [hS]; exact own_move HO3.out fun g hg => by have := hne4 g hg; (repeat rw [blk_far (by omega)])) hown4 hgrow4⟩
end Go.Proofs.Qxb6500679a
