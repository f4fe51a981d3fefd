import Derived.Test.Qxb6500688aPlk
namespace Go.Proofs.Qxb6500688a
open Go.RowKit Go.BigFrame
set_option linter.unusedSimpArgs false
attribute [local go_sem] ext_cell_if ext_frozen_if alloc_cell_if alloc_frozen_if ext_size ext_ext
/-- The walk's answer so far: n hunks. -/
def Wk (C : Nat) (w W : World) (n : Nat) (a : Option Addr) (c : Nat) : Prop := Gr w.heap.size w W ∧ Rv (C + 1) W 0 0 0 0 false a n c ∧ ∃ xs, W.ownsRow (C + 3) 41 4 (.slice a n c) n xs
theorem Cu.far2 {A cb ib : Nat} {w w' : World} {ver : Int} {path : List T} {i a b c e : Int} (h : Cu A w cb ib ver path i a b c e) (hk : ∀ (g : Nat) (cs : Array Value) (ty : TypeId), ty ≠ 41 → ty ≠ 37 → w.heap[g]? = some (.cells cs ty) → w'.heap[g]? = some (.cells cs ty)) : Cu A w' cb ib ver path i a b c e := by
  obtain ⟨pa, pc, h1, h2⟩ := h
  refine ⟨pa, pc, hk _ _ _ (by decide) (by decide) h1, own_move h2 fun g hg => ?_⟩
  rcases h2.2 with ⟨e1, _⟩ | ⟨g1, cap, cur, e1, _, h3, _⟩
  · rw [e1] at hg; simp [Value.ownBlock] at hg
  · rw [e1] at hg
    simp [Value.ownBlock] at hg
    subst hg
    rw [h3]; exact hk _ _ _ (by decide) (by decide) h3
theorem Wk.push {C n qn : Nat} {w W W1 W3 : World} {a qa : Option Addr} {c qc : Nat} {ys : List Value} (h : Wk C w W n a c) (hC : w.heap.size = C) (h1 : Gr W.heap.size W W1) (ho : W3.ownsRow (C + 3) 41 4 (.slice qa qn qc) (n + 1) ys) (hgw : W1.grownBy W3 (Value.slice a n c).ownBlock) :
    qn = n + 1 ∧ Wk C w (W3.setCell ⟨C + 1 + 1, 5, none⟩ (.slice qa qn qc)) (n + 1) qa qc ∧ ∀ (g : Nat) (cs : Array Value) (ty : TypeId), ty ≠ 41 → ty ≠ 37 → W.heap[g]? = some (.cells cs ty) → (W3.setCell ⟨C + 1 + 1, 5, none⟩ (.slice qa qn qc)).heap[g]? = some (.cells cs ty) := by
  obtain ⟨hg, hr, xs, hx⟩ := h
  obtain rfl : qn = n + 1 := own_len ho
  have kp : ∀ (g : Nat) (cs : Array Value) (ty : TypeId), ty ≠ 41 → W.heap[g]? = some (.cells cs ty) → W3.heap[g]? = some (.cells cs ty) := fun g cs ty h2 h3 => by
    have hl := lt_of_cells h3
    rw [hgw.block g (by have := h1.2; omega) (own_not hx h3 (fun e => h2 e.symm))]
    exact (h1.1.block g hl).trans h3
  refine ⟨rfl, ⟨?_, ?_, ys, ?_⟩, ?_⟩
  · exact ((hg.step h1 hg.2).grown hgw (fun k hk => by have := ownBlock_ge hx k hk; omega)).setCell (by show _ ≤ C + 1 + 1; omega) _
  · exact Rv.hunks (R := C + 1) ⟨kp _ _ _ (by decide) hr.1, kp _ _ _ (by decide) hr.2⟩ qa (n + 1) qc
  · exact own_move ho fun g hg' => blk_far (by have := ownBlock_ge ho g hg'; omega) _ _
  · intro g cs ty h2 h3 h4
    rw [blk_far (fun e => ?_)]
    · exact kp g cs ty h2 h4
    · subst e
      rw [hr.2] at h4
      simp at h4
      exact h3 h4.2.symm
theorem Wk.kp {C n : Nat} {w W W' : World} {a : Option Addr} {c : Nat} (h : Wk C w W n a c) (hC : w.heap.size = C) (hk : Kp (C + 3) (C + 3) W W') (h3 : C + 3 ≤ W.heap.size) (hcb : ∃ cs, W.heap[C + 3]? = some (.cells cs 49)) : Wk C w W' n a c := by
  obtain ⟨hg, hr, xs, hx⟩ := h
  refine ⟨hg.step (hk.2 W ⟨Below.refl _ _, h3⟩) (by omega), ⟨hk.1 _ _ _ (by omega) (by decide) hr.1, hk.1 _ _ _ (by omega) (by decide) hr.2⟩, xs, own_move hx fun g hg' => ?_⟩
  rcases hx.2 with ⟨e1, _⟩ | ⟨g1, cap, cur, e1, hb, h5, _⟩
  · rw [e1] at hg'; simp [Value.ownBlock] at hg'
  · rw [e1] at hg'
    simp [Value.ownBlock] at hg'
    subst hg'
    by_cases e : g1 = C + 3
    · obtain ⟨cs, h6⟩ := hcb
      rw [← e, h5] at h6
      simp at h6
    · rw [h5]; exact hk.1 _ _ _ e (by decide) h5
theorem Wk.ext {C n : Nat} {w W : World} {a : Option Addr} {c : Nat} (h : Wk C w W n a c) (x : Nat → Array Obj × Nat) : Wk C w (Qxb6500688a.ext W x) n a c := by
  obtain ⟨hg, hr, xs, hx⟩ := h
  exact ⟨hg.ext x, hr.gr ((Gr.refl W).ext x), xs, own_ext hx x⟩
theorem step_hunk {ops : Array Oper} {o : Oper} {a : Act} {w : World} {K : Act → World → Prop} {Q : Exit → Act → World → Prop} {E : Prop} (hg : o.guard = none) (n : Nat)
    (hop : o.op = .call { callee := .value (.func 12), args := #[.tmp n], argTypes := #[31] }) (A cb ib : Nat) (ver : Int) (path : List T) (i x y z u : Int) (hx : a.eval (.tmp n) = .pointer (some ⟨cb, 0, none⟩)) (hc : Cu A w cb ib ver path i x y z u)
    (h : ∀ X, K (a.put o.dst (.agg #[.int .i64 x, .int .i64 y, .int .i64 z, .int .i64 u])) (ext w X)) : if Region.wanted o (yielded ops a.tmps) = true then Oper.wp Try.prog o a w K Q else E := by
  rw [if_pos (by simp [Region.wanted, hg])]
  simp only [Act.eval] at hx
  have HU := hidden (hunk_any A cb ib ver path i x y z u w hc)
  clear hc
  unfold Oper.wp
  simp only [execOp, hop]
  go_simp
  refine HU.out.mono ?_
  rintro e w' ⟨rfl, X, rfl⟩
  exact h X
set_option maxRecDepth 100000 in
set_option maxHeartbeats 2000000 in
theorem play_walk (ib : Nat) (t : T) (ver lo hi da db ln : Int) (ha : Option Addr) (hm hc : Nat) (w : World) (hx : Ix w ib t ver) (hhi : -9223372036854775808 ≤ hi ∧ hi ≤ 9223372036854775807) :
    Calls Try.prog 8 #[.pointer (some ⟨ib, 0, none⟩), .agg #[.int .u8 6, .int .i64 lo, .int .i64 hi, .slice ha hm hc, .int .i64 da, .int .i64 db, .int .i64 ln]] w (PlayOK ib t ver 6 w) := by
  have HX := hidden hx
  clear hx
  obtain ⟨C, hC⟩ : ∃ C, w.heap.size = C := ⟨_, rfl⟩
  go_enter Try.func8, Try.ntmps8
  go_upto_region 2 with (fail)
  refine wp_gen (fun W => Gr C w W ∧ W.heap.size = C + 3 ∧ W.heap[C]? = some (.cells #[.int .u8 6, .int .i64 lo, .int .i64 hi, .slice ha hm hc, .int .i64 da, .int .i64 db, .int .i64 ln] 29) ∧ Rv (C + 1) W 0 0 0 0 false none 0 0) ⟨by rw [← hC]; exact (((Gr.refl w).alloc _).alloc _).alloc _, by simp; omega, ?_, ?_, ?_⟩ ?_
  · exact blk_alloc (blk_alloc (by rw [← hC]; exact heap_new _ _))
  · refine blk_alloc ?_
    have := heap_new (w.alloc (.cells #[.int .u8 6, .int .i64 lo, .int .i64 hi, .slice ha hm hc, .int .i64 da, .int .i64 db, .int .i64 ln] 29)) (.cells #[.int .u8 0, .int .i64 0, .bool false, .int .i64 0, .int .i64 0, .slice none 0 0] 37)
    simpa [hC] using this
  · have := heap_new ((w.alloc (.cells #[.int .u8 6, .int .i64 lo, .int .i64 hi, .slice ha hm hc, .int .i64 da, .int .i64 db, .int .i64 ln] 29)).alloc (.cells #[.int .u8 0, .int .i64 0, .bool false, .int .i64 0, .int .i64 0, .slice none 0 0] 37)) (.cells #[.int .u8 0, .int .i64 0, .bool false, .int .i64 0, .int .i64 0, .slice none 0 0] 37)
    simpa [hC] using this
  have HC := hidden hC
  have hs1 : w.heap.size ≤ C + 1 := by omega
  have hs2 : w.heap.size ≤ C + 2 := by omega
  have nT : Hid (∀ g, C ≤ g → g ≠ ib ∧ g ∉ t.blocks) := fun g hg => ⟨fun e => by have := lt_of_cells HX.out.cell; omega, fun e => by have := HX.out.rep.lt g e; omega⟩
  rintro w0 ⟨hg0, hz0, hv0, hr0⟩
  have HG0 := hidden (show Gr w.heap.size w w0 by rw [hC]; exact hg0)
  have HR0 := hidden hr0
  have HX0 := hidden (HX.out.gr (show Gr w.heap.size w w0 by rw [hC]; exact hg0))
  have c0 := cell_of_cells hv0 0
  have c1 := cell_of_cells hv0 1
  have c2 := cell_of_cells hv0 2
  have c3 := cell_of_cells hv0 3
  have c4 := cell_of_cells hv0 4
  have c5 := cell_of_cells hv0 5
  have c6 := cell_of_cells hv0 6
  have r0 := cell_of_cells hr0.2 0
  have r1 := cell_of_cells hr0.2 1
  have r2 := cell_of_cells hr0.2 2
  have r3 := cell_of_cells hr0.2 3
  have r4 := cell_of_cells hr0.2 4
  have r5 := cell_of_cells hr0.2 5
  have rm := mark_of_cells hr0.2
  simp at c0 c1 c2 c3 c4 c5 c6 r0 r1 r2 r3 r4 r5
  have hz3 : C + 2 < w0.heap.size := by omega
  have HV0 := hidden hv0
  clear hg0 hv0 hr0
  obtain ⟨i4, hi4, ha4, hb4, hc4⟩ := info_parts Try.inf41
  by_cases hin : lo < 0 ∨ (t.sz : Int) ≤ lo
  · have CU := hidden (cursor_out ib t ver lo w0 HX0.out hin)
    rw [hz0] at CU
    clear hin
    have VA : Hid (∀ w1, Gr (C + 3) w0 w1 → Cu (C + 3) w1 (C + 3) ib ver [] lo 0 0 0 0 → Calls Try.prog 9 #[.pointer (some ⟨C + 3, 0, none⟩)] w1 fun e w' => ValidOK [] ver ver e ∧ ∃ x, w' = ext w1 x) := fun w1 hg hc => valid_any _ _ _ t _ _ _ _ _ _ _ _ w1 hc (HX0.out.gr (by rw [hz0]; exact hg)).cell
    go_upto_region 32 with (first
      | (go_at_call 7; (with_reducible refine CU.out.mono ?_); rintro _ w1 ⟨rfl, hg1, hc1⟩; have HG1 := hidden hg1; have VB := hidden (VA.out w1 hg1 hc1); have hrv := HR0.out.gr (show Gr w0.heap.size w0 w1 by rw [hz0]; exact hg1); have HV1 := hidden hrv; have q0 := cell_of_cells hrv.2 0; have qm := mark_of_cells hrv.2; have hz4 := lt_of_cells hrv.2; simp at q0; clear hg1 hc1 hrv)
      | (go_at_call 9; (with_reducible refine VB.out.mono ?_); rintro _ _ ⟨hV, x1, rfl⟩; obtain rfl := hV.1 (.inl rfl); clear hV))
    refine wp_gen (fun W => Rv (C + 1) W 1 0 0 0 false none 0 0 ∧ Pd ib t ver (C + 3) w 6 1 W) ⟨(HV1.out.gr ((Gr.refl _).ext x1)).code 1, by refine .inr (.inr ⟨by decide, by decide, ?_⟩); exact ((HG0.out.step HG1.out (by omega)).ext x1).setCell hs2 _⟩ ?_
    rintro w9 ⟨hr9, hp9⟩
    have HP := hidden hp9
    have HR := hidden hr9.1
    have e0 := cell_of_cells hr9.2 0
    have e1 := cell_of_cells hr9.2 1
    have e2 := cell_of_cells hr9.2 2
    have e3 := cell_of_cells hr9.2 3
    have e4 := cell_of_cells hr9.2 4
    have e5 := cell_of_cells hr9.2 5
    have d0 := cell_of_cells hr9.1 0
    have d1 := cell_of_cells hr9.1 1
    have d2 := cell_of_cells hr9.1 2
    have d3 := cell_of_cells hr9.1 3
    have d4 := cell_of_cells hr9.1 4
    have d5 := cell_of_cells hr9.1 5
    have dm := mark_of_cells hr9.1
    simp at e0 e1 e2 e3 e4 e5 d0 d1 d2 d3 d4 d5
    clear hr9 hp9
    go_wp2_with (fail)
    refine post_gen (fun W => Pd ib t ver (C + 3) w 6 1 W ∧ W.heap[C + 1]? = some (.cells #[.int .u8 1, .int .i64 0, .bool false, .int .i64 0, .int .i64 0, .slice none 0 0] 37)) ⟨?_, ?_⟩ ?_
    · exact (((((HP.out.set HX.out hs1 (by omega) _ _).set HX.out hs1 (by omega) _ _).set HX.out hs1 (by omega) _ _).set HX.out hs1 (by omega) _ _).set HX.out hs1 (by omega) _ _).set HX.out hs1 (by omega) _ _
    · have := blk_set (blk_set (blk_set (blk_set (blk_set (blk_set HR.out 0 (.int .u8 1)) 1 (.int .i64 0)) 2 (.bool false)) 3 (.int .i64 0)) 4 (.int .i64 0)) 5 (.slice none 0 0)
      simpa using this
    rintro Wf ⟨hPf, hF⟩
    have f0 := cell_of_cells hF 0
    have f1 := cell_of_cells hF 1
    have f2 := cell_of_cells hF 2
    have f3 := cell_of_cells hF 3
    have f4 := cell_of_cells hF 4
    have f5 := cell_of_cells hF 5
    simp at f0 f1 f2 f3 f4 f5
    exact bodyPost_ret (v := .agg #[.int .u8 1, .int .i64 0, .bool false, .int .i64 0, .int .i64 0, .slice none 0 0]) (by simp [results, Try.results8, go_sem, f0, f1, f2, f3, f4, f5]) rfl ⟨_, _, _, _, _, _, _, _, rfl, by rw [HC.out]; exact hPf.mono (by omega)⟩
  · obtain ⟨j, rfl⟩ : ∃ j : Nat, lo = j := ⟨lo.toNat, by omega⟩
    have hjs : j < t.sz := by omega
    clear hin
    have hjl : j < t.seq.length := by rw [T.sz_seq]; omega
    have CU := hidden (cursor_in ib t ver j t.seq[j] w0 HX0.out (List.getElem?_eq_getElem hjl))
    have HPJ := hidden (List.getElem?_eq_getElem hjl : t.seq[j]? = some t.seq[j])
    generalize t.seq[j] = p at *
    rw [hz0] at CU
    rw [pathTo_eq] at CU
    clear hjl
    have hpn : pathD true t j ≠ [] := by obtain ⟨s0, hs0⟩ := pathD_cons true (sz_nil (t := t) (by omega)) j; rw [hs0]; simp
    have VA : Hid (∀ w1, Gr (C + 3) w0 w1 → Cu (C + 3) w1 (C + 3) ib ver (pathD true t j) j (wrap64 (totA (t.seq.take j) + p.2.ga)) p.2.la (wrap64 (totB (t.seq.take j) + p.2.gb)) p.2.lb → Calls Try.prog 9 #[.pointer (some ⟨C + 3, 0, none⟩)] w1 fun e w' => ValidOK (pathD true t j) ver ver e ∧ ∃ x, w' = ext w1 x) := fun w1 hg hc => valid_any _ _ _ t _ _ _ _ _ _ _ _ w1 hc (HX0.out.gr (by rw [hz0]; exact hg)).cell
    go_upto_region 22 with (first
      | (go_at_call 7; (with_reducible refine CU.out.mono ?_); rintro _ w1 ⟨rfl, hg1, hc1⟩; have HG1 := hidden hg1; have HC1 := hidden hc1; have VB := hidden (VA.out w1 hg1 hc1); clear hg1 hc1)
      | (go_at_call 9; (with_reducible refine VB.out.mono ?_); rintro _ _ ⟨hV, x1, rfl⟩; obtain rfl := hV.2 hpn rfl; clear hV))
    have hgx : Gr (C + 3) w0 (ext w1 x1) := HG1.out.ext x1
    have hk0 : Wk C w (ext w1 x1) 0 none 0 := ⟨HG0.out.step hgx (by omega), HR0.out.gr (by rw [hz0]; exact hgx), [], World.ownsRow_nil _ _ _ _⟩
    have hcu : Cu (C + 3) (ext w1 x1) (C + 3) ib ver (pathD true t j) j (wrap64 (totA (t.seq.take j) + p.2.ga)) p.2.la (wrap64 (totB (t.seq.take j) + p.2.gb)) p.2.lb := HC1.out.far2 fun g cs ty _ _ h => blk_ext h
    have hop : (ext w1 x1).heap[C]? = some (.cells #[.int .u8 6, .int .i64 j, .int .i64 hi, .slice ha hm hc, .int .i64 da, .int .i64 db, .int .i64 ln] 29) := (hgx.1.block C (by omega)).trans HV0.out
    have h3w : C + 3 ≤ (ext w1 x1).heap.size := hgx.2
    have HK := hidden hk0
    have HCU := hidden hcu
    have HOP := hidden hop
    have r5 := cell_of_cells hk0.2.1.2 5
    have rm := mark_of_cells hk0.2.1.2
    have hz6 := lt_of_cells hk0.2.1.2
    simp at r5
    clear hgx hk0 hcu hop CU VA VB HC1 c0 c1 c2 c3 c4 c5 c6 r0 r1 r2 r3 r4
    generalize ext w1 x1 = W at *
    obtain ⟨XA, hXA⟩ : ∃ Q, wrap64 (totA (t.seq.take j) + p.2.ga) = Q := ⟨_, rfl⟩
    obtain ⟨XB, hXB⟩ : ∃ Q, wrap64 (totB (t.seq.take j) + p.2.gb) = Q := ⟨_, rfl⟩
    obtain ⟨LA, hLA⟩ : ∃ Q, p.2.la = Q := ⟨_, rfl⟩
    obtain ⟨LB, hLB⟩ : ∃ Q, p.2.lb = Q := ⟨_, rfl⟩
    rw [hXA, hXB, hLA, hLB] at HCU
    have EQ := hidden (⟨hXA, hXB, hLA, hLB⟩ : _ ∧ _ ∧ _ ∧ _)
    clear hXA hXB hLA hLB
    go_cut [] (fun wc => ∃ a c, Wk C w wc 1 a c ∧ Cu (C + 3) wc (C + 3) ib ver (pathD true t j) j XA LA XB LB ∧ wc.heap[C]? = some (.cells #[.int .u8 6, .int .i64 j, .int .i64 hi, .slice ha hm hc, .int .i64 da, .int .i64 db, .int .i64 ln] 29))
    case first =>
      go_region_law (first
        | (refine step_hunk rfl 94 rfl (C + 3) (C + 3) ib ver (pathD true t j) j XA LA XB LB (by simp [Act.eval, Act.put]) (HCU.out.far2 fun g cs ty _ _ h => by first | exact h | exact blk_ext h) ?_; intro X; have hzX : C + 1 + 1 < W.heap.size + (X 0).1.size := by omega)
        | (refine step_append_at rfl (.tmp 93) (.tmp 96) 27 rfl (C + 3) 41 i4 _ 4 32 Try.underlying27 hi4 ha4 hb4 hc4 rfl (by decide) (.slice none 0 0) 0 [] (by simp [Act.eval, Act.put]) (World.ownsRow_nil _ _ _ _) ⟨W.heap.size + (X 0).1.size, 0, none⟩ 1 1 [.int .i64 XA, .int .i64 LA, .int .i64 XB, .int .i64 LB] (by simp [Act.eval, Act.put]) rfl (by intro j u hj; rw [show (⟨W.heap.size + (X 0).1.size, 0, none⟩ : Addr).add j = ⟨W.heap.size + (X 0).1.size, j, none⟩ by (simp [Addr.add] <;> omega)]; rw [new_cell _ _ _ _ (by simp [ext_size, drew_heap])]; simpa using hj) (by intro u hu; simp at hu; rcases hu with rfl | rfl | rfl | rfl <;> rfl) (by unfold maxLen; omega) (by omega) (by simp [ext_size, drew_heap]; omega) ?_; intro v' w3 hown3 hgrow3 _; obtain ⟨qa, qn, qc, rfl⟩ := own_slice hown3; have HO3 := hidden hown3; have HGW := hidden hgrow3; have hh3 := (HGW.out.block (C + 1 + 1) (by simp [ext_size, drew_heap]; omega) (by first | exact own_ne HOW.out (by omega) | simp [Value.ownBlock])).trans (blk_alloc (blk_ext HK.out.2.1.2)); have s5 := cell_of_cells hh3 5; have sm := mark_of_cells hh3; have hz7 := lt_of_cells hh3; simp at s5; clear hh3 hown3 hgrow3))
      all_goals
        go_wp2_with (fail)
        go_meet
        case rel =>
          obtain ⟨rfl, h1, h2⟩ := HK.out.push HC.out (((Gr.refl W).drew.ext X).alloc _) HO3.out HGW.out
          exact ⟨qa, qc, h1, HCU.out.far2 h2, h2 _ _ _ (by decide) (by decide) HOP.out⟩
    case rest =>
      clear HK HCU HOP r5 rm hz6 HR0 HG1 HV0
      obtain ⟨a, c, hk, hcu, hop⟩ := hcut
      have c2 := cell_of_cells hop 2
      simp at c2
      have HK := hidden hk
      have HCU := hidden hcu
      have hcb : C + 3 ∉ t.blocks := (nT.out (C + 3) (by omega)).2
      clear hk hcu hop
      by_cases hpos : 0 ≤ hi
      · go_wp2_with (fail)
        clear c2
        go_loopw [8] (fun s8 wi => ∃ (st : Int) (jj n : Nat) (pp : Nat × G) (a : Option Addr) (c : Nat), s8 = .int .i64 st ∧ 0 ≤ st ∧ st ≤ 9223372036854775807 ∧ t.seq[jj]? = some pp ∧ Cu (C + 3) wi (C + 3) ib ver (pathD true t jj) jj (wrap64 (totA (t.seq.take jj) + pp.2.ga)) pp.2.la (wrap64 (totB (t.seq.take jj) + pp.2.gb)) pp.2.lb ∧ Wk C w wi n a c ∧ n ≤ jj + 1) (fun s8 _ => (intOf s8).toNat)
        case atStart =>
          refine ⟨hi, j, 1, p, a, c, rfl, hpos, hhi.2, HPJ.out, ?_, HK.out, by omega⟩
          obtain ⟨e1, e2, e3, e4⟩ := EQ.out
          rw [e1, e2, e3, e4]
          exact HCU.out
        case round =>
          clear HK HCU EQ HPJ hpn hjs
          obtain ⟨st, jj, n, pp, a, c, rfl, hst0, hst1, hpp, hcu, hk, hnj⟩ := hrel
          have HK := hidden hk
          have hx1 := HX.out.gr (w' := wr) hk.1
          by_cases hs : st = 0
          · subst hs
            clear hpp hcu hk hx1
            go_upto_region 32 with (fail)
            refine wp_gen (fun W => Rv (C + 1) W 0 0 0 0 false a n c ∧ Pd ib t ver (C + 3) w 6 0 W) ⟨HK.out.2.1, .inr (.inr ⟨by decide, by decide, HK.out.1⟩)⟩ ?_
            rintro w9 ⟨hr9, hp9⟩
            have HP := hidden hp9
            have HR := hidden hr9.1
            have e0 := cell_of_cells hr9.2 0
            have e1 := cell_of_cells hr9.2 1
            have e2 := cell_of_cells hr9.2 2
            have e3 := cell_of_cells hr9.2 3
            have e4 := cell_of_cells hr9.2 4
            have e5 := cell_of_cells hr9.2 5
            have d0 := cell_of_cells hr9.1 0
            have d1 := cell_of_cells hr9.1 1
            have d2 := cell_of_cells hr9.1 2
            have d3 := cell_of_cells hr9.1 3
            have d4 := cell_of_cells hr9.1 4
            have d5 := cell_of_cells hr9.1 5
            have dm := mark_of_cells hr9.1
            simp at e0 e1 e2 e3 e4 e5 d0 d1 d2 d3 d4 d5
            clear hr9 hp9
            go_wp2_with (fail)
            refine post_gen (fun W => Pd ib t ver (C + 3) w 6 0 W ∧ W.heap[C + 1]? = some (.cells #[.int .u8 0, .int .i64 0, .bool false, .int .i64 0, .int .i64 0, .slice a n c] 37)) ⟨?_, ?_⟩ ?_
            · exact (((((HP.out.set HX.out hs1 (by omega) _ _).set HX.out hs1 (by omega) _ _).set HX.out hs1 (by omega) _ _).set HX.out hs1 (by omega) _ _).set HX.out hs1 (by omega) _ _).set HX.out hs1 (by omega) _ _
            · have := blk_set (blk_set (blk_set (blk_set (blk_set (blk_set HR.out 0 (.int .u8 0)) 1 (.int .i64 0)) 2 (.bool false)) 3 (.int .i64 0)) 4 (.int .i64 0)) 5 (.slice a n c)
              simpa using this
            rintro Wf ⟨hPf, hF⟩
            have f0 := cell_of_cells hF 0
            have f1 := cell_of_cells hF 1
            have f2 := cell_of_cells hF 2
            have f3 := cell_of_cells hF 3
            have f4 := cell_of_cells hF 4
            have f5 := cell_of_cells hF 5
            simp at f0 f1 f2 f3 f4 f5
            exact bodyPost_ret (v := .agg #[.int .u8 0, .int .i64 0, .bool false, .int .i64 0, .int .i64 0, .slice a n c]) (by simp [results, Try.results8, go_sem, f0, f1, f2, f3, f4, f5]) rfl ⟨_, _, _, _, _, _, _, _, rfl, by rw [HC.out]; exact hPf.mono (by omega)⟩
          · have hstp : 0 < st := by omega
            have hsn : ¬ st < 0 := by omega
            have hjs : jj < t.sz := by rw [← T.sz_seq]; exact (List.getElem?_eq_some_iff.1 hpp).1
            have htsz := hx1.sz
            have NX := hidden (next_any (C + 3) (C + 3) ib ver t jj pp wr hpp hcu hx1.cell hx1.rep hx1.nd hx1.sz hcb (Nat.le_refl _))
            have HCB := hidden (show ∃ cs, wr.heap[C + 3]? = some (.cells cs 49) by obtain ⟨pa, pc, g1, _⟩ := hcu; exact ⟨_, g1⟩)
            have h3r := hidden (show C + 3 ≤ wr.heap.size by obtain ⟨pa, pc, g1, _⟩ := hcu; have := lt_of_cells g1; omega)
            clear hpp hcu hk hx1
            by_cases hl : jj + 1 < t.sz
            · go_upto_region 26 with (go_at_call 10; (with_reducible refine NX.out.mono ?_); rintro _ W ⟨hkp4, hor⟩; obtain ⟨_, rfl, hcu4⟩ := hor.resolve_right (by omega); have HK4 := hidden (HK.out.kp HC.out hkp4 h3r.out HCB.out); obtain ⟨p', hp', hcu'⟩ := hcu4; have HP' := hidden hp'; have HCU' := hidden hcu'; clear hkp4 hor hp' hcu')
              have hk4 := HK4.out
              obtain ⟨xs, how⟩ := hk4.2.2
              have HOW := hidden how
              have HRV := hidden hk4.2.1.2
              have r5 := cell_of_cells hk4.2.1.2 5
              have rm := mark_of_cells hk4.2.1.2
              have hz6 := lt_of_cells hk4.2.1.2
              have h3w : C + 3 ≤ W.heap.size := by obtain ⟨pa, pc, g1, _⟩ := HCU'.out; have := lt_of_cells g1; omega
              simp at r5
              obtain ⟨XA, hXA⟩ : ∃ Q, wrap64 (totA (t.seq.take (jj + 1)) + p'.2.ga) = Q := ⟨_, rfl⟩
              obtain ⟨XB, hXB⟩ : ∃ Q, wrap64 (totB (t.seq.take (jj + 1)) + p'.2.gb) = Q := ⟨_, rfl⟩
              obtain ⟨LA, hLA⟩ : ∃ Q, p'.2.la = Q := ⟨_, rfl⟩
              obtain ⟨LB, hLB⟩ : ∃ Q, p'.2.lb = Q := ⟨_, rfl⟩
              rw [hXA, hXB, hLA, hLB] at HCU'
              have EQ := hidden (⟨hXA, hXB, hLA, hLB⟩ : _ ∧ _ ∧ _ ∧ _)
              clear hXA hXB hLA hLB how hk4 NX HK HCB h3r
              go_region_law (first
                | (refine step_hunk rfl 121 rfl (C + 3) (C + 3) ib ver (pathD true t (jj + 1)) ((jj + 1 : Nat) : Int) XA LA XB LB (by simp [Act.eval, Act.put]) (HCU'.out.far2 fun g cs ty _ _ h => by first | exact h | exact blk_ext h) ?_; intro X; have hzX : C + 1 + 1 < W.heap.size + (X 0).1.size := by omega)
                | (refine step_append_at rfl (.tmp 120) (.tmp 123) 27 rfl (C + 3) 41 i4 _ 4 32 Try.underlying27 hi4 ha4 hb4 hc4 rfl (by decide) (.slice a n c) n xs (by simp [Act.eval, Act.put]) ((own_ext HOW.out.drew X).alloc _) ⟨W.heap.size + (X 0).1.size, 0, none⟩ 1 1 [.int .i64 XA, .int .i64 LA, .int .i64 XB, .int .i64 LB] (by simp [Act.eval, Act.put]) rfl (by intro j u hj; rw [show (⟨W.heap.size + (X 0).1.size, 0, none⟩ : Addr).add j = ⟨W.heap.size + (X 0).1.size, j, none⟩ by (simp [Addr.add] <;> omega)]; rw [new_cell _ _ _ _ (by simp [ext_size, drew_heap])]; simpa using hj) (by intro u hu; simp at hu; rcases hu with rfl | rfl | rfl | rfl <;> rfl) (by unfold maxLen; omega) (by omega) (by simp [ext_size, drew_heap]; omega) ?_; intro v' w3 hown3 hgrow3 _; obtain ⟨qa, qn, qc, rfl⟩ := own_slice hown3; have HO3 := hidden hown3; have HGW := hidden hgrow3; have hh3 := (HGW.out.block (C + 1 + 1) (by simp [ext_size, drew_heap]; omega) (by first | exact own_ne HOW.out (by omega) | simp [Value.ownBlock])).trans (blk_alloc (blk_ext HRV.out)); have s5 := cell_of_cells hh3 5; have sm := mark_of_cells hh3; have hz7 := lt_of_cells hh3; simp at s5; clear hh3 hown3 hgrow3))
              all_goals
                go_wp2_with (fail)
                obtain ⟨rfl, h1, h2⟩ := HK4.out.push HC.out (((Gr.refl W).drew.ext X).alloc _) HO3.out HGW.out
                refine ⟨⟨st - 1, jj + 1, n + 1, p', qa, qc, by go_num, by omega, by omega, HP'.out, ?_, h1, by omega⟩, by simp [intOf]; omega⟩
                obtain ⟨e1, e2, e3, e4⟩ := EQ.out
                rw [e1, e2, e3, e4]
                exact HCU'.out.far2 h2
            · go_upto_region 32 with (go_at_call 10; (with_reducible refine NX.out.mono ?_); rintro _ W ⟨hkp4, hor⟩; obtain ⟨_, rfl, hcu4⟩ := hor.resolve_left (by omega); have HK4 := hidden (HK.out.kp HC.out hkp4 h3r.out HCB.out); clear hkp4 hor hcu4)
              refine wp_gen (fun W => Rv (C + 1) W 0 0 0 0 false a n c ∧ Pd ib t ver (C + 3) w 6 0 W) ⟨HK4.out.2.1, .inr (.inr ⟨by decide, by decide, HK4.out.1⟩)⟩ ?_
              rintro w9 ⟨hr9, hp9⟩
              have HP := hidden hp9
              have HR := hidden hr9.1
              have e0 := cell_of_cells hr9.2 0
              have e1 := cell_of_cells hr9.2 1
              have e2 := cell_of_cells hr9.2 2
              have e3 := cell_of_cells hr9.2 3
              have e4 := cell_of_cells hr9.2 4
              have e5 := cell_of_cells hr9.2 5
              have d0 := cell_of_cells hr9.1 0
              have d1 := cell_of_cells hr9.1 1
              have d2 := cell_of_cells hr9.1 2
              have d3 := cell_of_cells hr9.1 3
              have d4 := cell_of_cells hr9.1 4
              have d5 := cell_of_cells hr9.1 5
              have dm := mark_of_cells hr9.1
              simp at e0 e1 e2 e3 e4 e5 d0 d1 d2 d3 d4 d5
              clear hr9 hp9
              go_wp2_with (fail)
              refine post_gen (fun W => Pd ib t ver (C + 3) w 6 0 W ∧ W.heap[C + 1]? = some (.cells #[.int .u8 0, .int .i64 0, .bool false, .int .i64 0, .int .i64 0, .slice a n c] 37)) ⟨?_, ?_⟩ ?_
              · exact (((((HP.out.set HX.out hs1 (by omega) _ _).set HX.out hs1 (by omega) _ _).set HX.out hs1 (by omega) _ _).set HX.out hs1 (by omega) _ _).set HX.out hs1 (by omega) _ _).set HX.out hs1 (by omega) _ _
              · have := blk_set (blk_set (blk_set (blk_set (blk_set (blk_set HR.out 0 (.int .u8 0)) 1 (.int .i64 0)) 2 (.bool false)) 3 (.int .i64 0)) 4 (.int .i64 0)) 5 (.slice a n c)
                simpa using this
              rintro Wf ⟨hPf, hF⟩
              have f0 := cell_of_cells hF 0
              have f1 := cell_of_cells hF 1
              have f2 := cell_of_cells hF 2
              have f3 := cell_of_cells hF 3
              have f4 := cell_of_cells hF 4
              have f5 := cell_of_cells hF 5
              simp at f0 f1 f2 f3 f4 f5
              exact bodyPost_ret (v := .agg #[.int .u8 0, .int .i64 0, .bool false, .int .i64 0, .int .i64 0, .slice a n c]) (by simp [results, Try.results8, go_sem, f0, f1, f2, f3, f4, f5]) rfl ⟨_, _, _, _, _, _, _, _, rfl, by rw [HC.out]; exact hPf.mono (by omega)⟩
      · have hneg : hi < 0 := by omega
        go_wp2_with (fail)
        clear c2
        go_loopw [8] (fun s8 wi => ∃ (st : Int) (jj n : Nat) (a : Option Addr) (c : Nat) (i' x y z u : Int), s8 = .int .i64 st ∧ st ≤ 0 ∧ -9223372036854775808 ≤ st ∧ jj < t.sz ∧ Cu (C + 3) wi (C + 3) ib ver (pathD false t jj) i' x y z u ∧ Wk C w wi n a c ∧ n ≤ jj + 1) (fun s8 _ => (-(intOf s8)).toNat)
        case atStart =>
          refine ⟨hi, t.sz - 1 - j, 1, a, c, (j : Int), XA, LA, XB, LB, rfl, by omega, hhi.1, by omega, ?_, HK.out, by omega⟩
          rw [← pathD_flip t j hjs]
          exact HCU.out
        case round =>
          clear HK HCU EQ HPJ hpn hjs
          obtain ⟨st, jj, n, a, c, i', x, y, z, u, rfl, hst0, hst1, hjs, hcu, hk, hnj⟩ := hrel
          have HK := hidden hk
          have hx1 := HX.out.gr (w' := wr) hk.1
          by_cases hs : st = 0
          · subst hs
            clear hcu hk hx1
            go_upto_region 32 with (fail)
            refine wp_gen (fun W => Rv (C + 1) W 0 0 0 0 false a n c ∧ Pd ib t ver (C + 3) w 6 0 W) ⟨HK.out.2.1, .inr (.inr ⟨by decide, by decide, HK.out.1⟩)⟩ ?_
            rintro w9 ⟨hr9, hp9⟩
            have HP := hidden hp9
            have HR := hidden hr9.1
            have e0 := cell_of_cells hr9.2 0
            have e1 := cell_of_cells hr9.2 1
            have e2 := cell_of_cells hr9.2 2
            have e3 := cell_of_cells hr9.2 3
            have e4 := cell_of_cells hr9.2 4
            have e5 := cell_of_cells hr9.2 5
            have d0 := cell_of_cells hr9.1 0
            have d1 := cell_of_cells hr9.1 1
            have d2 := cell_of_cells hr9.1 2
            have d3 := cell_of_cells hr9.1 3
            have d4 := cell_of_cells hr9.1 4
            have d5 := cell_of_cells hr9.1 5
            have dm := mark_of_cells hr9.1
            simp at e0 e1 e2 e3 e4 e5 d0 d1 d2 d3 d4 d5
            clear hr9 hp9
            go_wp2_with (fail)
            refine post_gen (fun W => Pd ib t ver (C + 3) w 6 0 W ∧ W.heap[C + 1]? = some (.cells #[.int .u8 0, .int .i64 0, .bool false, .int .i64 0, .int .i64 0, .slice a n c] 37)) ⟨?_, ?_⟩ ?_
            · exact (((((HP.out.set HX.out hs1 (by omega) _ _).set HX.out hs1 (by omega) _ _).set HX.out hs1 (by omega) _ _).set HX.out hs1 (by omega) _ _).set HX.out hs1 (by omega) _ _).set HX.out hs1 (by omega) _ _
            · have := blk_set (blk_set (blk_set (blk_set (blk_set (blk_set HR.out 0 (.int .u8 0)) 1 (.int .i64 0)) 2 (.bool false)) 3 (.int .i64 0)) 4 (.int .i64 0)) 5 (.slice a n c)
              simpa using this
            rintro Wf ⟨hPf, hF⟩
            have f0 := cell_of_cells hF 0
            have f1 := cell_of_cells hF 1
            have f2 := cell_of_cells hF 2
            have f3 := cell_of_cells hF 3
            have f4 := cell_of_cells hF 4
            have f5 := cell_of_cells hF 5
            simp at f0 f1 f2 f3 f4 f5
            exact bodyPost_ret (v := .agg #[.int .u8 0, .int .i64 0, .bool false, .int .i64 0, .int .i64 0, .slice a n c]) (by simp [results, Try.results8, go_sem, f0, f1, f2, f3, f4, f5]) rfl ⟨_, _, _, _, _, _, _, _, rfl, by rw [HC.out]; exact hPf.mono (by omega)⟩
          · have hstp : ¬ 0 < st := by omega
            have hsn : st < 0 := by omega
            have htsz := hx1.sz
            have NX := hidden (prev_any (C + 3) (C + 3) ib ver t jj _ _ _ _ _ wr hjs hcu hx1.cell hx1.rep hx1.nd hx1.sz hcb (Nat.le_refl _))
            have HCB := hidden (show ∃ cs, wr.heap[C + 3]? = some (.cells cs 49) by obtain ⟨pa, pc, g1, _⟩ := hcu; exact ⟨_, g1⟩)
            have h3r := hidden (show C + 3 ≤ wr.heap.size by obtain ⟨pa, pc, g1, _⟩ := hcu; have := lt_of_cells g1; omega)
            clear hcu hk hx1
            by_cases hl : jj + 1 < t.sz
            · go_upto_region 26 with (go_at_call 11; (with_reducible refine NX.out.mono ?_); rintro _ W ⟨hkp4, hor⟩; obtain ⟨_, rfl, hcu4⟩ := hor.resolve_right (by omega); have HK4 := hidden (HK.out.kp HC.out hkp4 h3r.out HCB.out); obtain ⟨i2, XA, LA, XB, LB, hcu'⟩ := hcu4; have HCU' := hidden hcu'; clear hkp4 hor hcu')
              have hk4 := HK4.out
              obtain ⟨xs, how⟩ := hk4.2.2
              have HOW := hidden how
              have HRV := hidden hk4.2.1.2
              have r5 := cell_of_cells hk4.2.1.2 5
              have rm := mark_of_cells hk4.2.1.2
              have hz6 := lt_of_cells hk4.2.1.2
              have h3w : C + 3 ≤ W.heap.size := by obtain ⟨pa, pc, g1, _⟩ := HCU'.out; have := lt_of_cells g1; omega
              simp at r5
              clear how hk4 NX HK HCB h3r
              go_region_law (first
                | (refine step_hunk rfl 121 rfl (C + 3) (C + 3) ib ver (pathD false t (jj + 1)) i2 XA LA XB LB (by simp [Act.eval, Act.put]) (HCU'.out.far2 fun g cs ty _ _ h => by first | exact h | exact blk_ext h) ?_; intro X; have hzX : C + 1 + 1 < W.heap.size + (X 0).1.size := by omega)
                | (refine step_append_at rfl (.tmp 120) (.tmp 123) 27 rfl (C + 3) 41 i4 _ 4 32 Try.underlying27 hi4 ha4 hb4 hc4 rfl (by decide) (.slice a n c) n xs (by simp [Act.eval, Act.put]) ((own_ext HOW.out.drew X).alloc _) ⟨W.heap.size + (X 0).1.size, 0, none⟩ 1 1 [.int .i64 XA, .int .i64 LA, .int .i64 XB, .int .i64 LB] (by simp [Act.eval, Act.put]) rfl (by intro j u hj; rw [show (⟨W.heap.size + (X 0).1.size, 0, none⟩ : Addr).add j = ⟨W.heap.size + (X 0).1.size, j, none⟩ by (simp [Addr.add] <;> omega)]; rw [new_cell _ _ _ _ (by simp [ext_size, drew_heap])]; simpa using hj) (by intro u hu; simp at hu; rcases hu with rfl | rfl | rfl | rfl <;> rfl) (by unfold maxLen; omega) (by omega) (by simp [ext_size, drew_heap]; omega) ?_; intro v' w3 hown3 hgrow3 _; obtain ⟨qa, qn, qc, rfl⟩ := own_slice hown3; have HO3 := hidden hown3; have HGW := hidden hgrow3; have hh3 := (HGW.out.block (C + 1 + 1) (by simp [ext_size, drew_heap]; omega) (by first | exact own_ne HOW.out (by omega) | simp [Value.ownBlock])).trans (blk_alloc (blk_ext HRV.out)); have s5 := cell_of_cells hh3 5; have sm := mark_of_cells hh3; have hz7 := lt_of_cells hh3; simp at s5; clear hh3 hown3 hgrow3))
              all_goals
                go_wp2_with (fail)
                obtain ⟨rfl, h1, h2⟩ := HK4.out.push HC.out (((Gr.refl W).drew.ext X).alloc _) HO3.out HGW.out
                exact ⟨⟨st + 1, jj + 1, n + 1, qa, qc, _, _, _, _, _, by go_num, by omega, by omega, hl, HCU'.out.far2 h2, h1, by omega⟩, by simp [intOf]; omega⟩
            · go_upto_region 32 with (go_at_call 11; (with_reducible refine NX.out.mono ?_); rintro _ W ⟨hkp4, hor⟩; obtain ⟨_, rfl, hcu4⟩ := hor.resolve_left (by omega); have HK4 := hidden (HK.out.kp HC.out hkp4 h3r.out HCB.out); clear hkp4 hor hcu4)
              refine wp_gen (fun W => Rv (C + 1) W 0 0 0 0 false a n c ∧ Pd ib t ver (C + 3) w 6 0 W) ⟨HK4.out.2.1, .inr (.inr ⟨by decide, by decide, HK4.out.1⟩)⟩ ?_
              rintro w9 ⟨hr9, hp9⟩
              have HP := hidden hp9
              have HR := hidden hr9.1
              have e0 := cell_of_cells hr9.2 0
              have e1 := cell_of_cells hr9.2 1
              have e2 := cell_of_cells hr9.2 2
              have e3 := cell_of_cells hr9.2 3
              have e4 := cell_of_cells hr9.2 4
              have e5 := cell_of_cells hr9.2 5
              have d0 := cell_of_cells hr9.1 0
              have d1 := cell_of_cells hr9.1 1
              have d2 := cell_of_cells hr9.1 2
              have d3 := cell_of_cells hr9.1 3
              have d4 := cell_of_cells hr9.1 4
              have d5 := cell_of_cells hr9.1 5
              have dm := mark_of_cells hr9.1
              simp at e0 e1 e2 e3 e4 e5 d0 d1 d2 d3 d4 d5
              clear hr9 hp9
              go_wp2_with (fail)
              refine post_gen (fun W => Pd ib t ver (C + 3) w 6 0 W ∧ W.heap[C + 1]? = some (.cells #[.int .u8 0, .int .i64 0, .bool false, .int .i64 0, .int .i64 0, .slice a n c] 37)) ⟨?_, ?_⟩ ?_
              · exact (((((HP.out.set HX.out hs1 (by omega) _ _).set HX.out hs1 (by omega) _ _).set HX.out hs1 (by omega) _ _).set HX.out hs1 (by omega) _ _).set HX.out hs1 (by omega) _ _).set HX.out hs1 (by omega) _ _
              · have := blk_set (blk_set (blk_set (blk_set (blk_set (blk_set HR.out 0 (.int .u8 0)) 1 (.int .i64 0)) 2 (.bool false)) 3 (.int .i64 0)) 4 (.int .i64 0)) 5 (.slice a n c)
                simpa using this
              rintro Wf ⟨hPf, hF⟩
              have f0 := cell_of_cells hF 0
              have f1 := cell_of_cells hF 1
              have f2 := cell_of_cells hF 2
              have f3 := cell_of_cells hF 3
              have f4 := cell_of_cells hF 4
              have f5 := cell_of_cells hF 5
              simp at f0 f1 f2 f3 f4 f5
              exact bodyPost_ret (v := .agg #[.int .u8 0, .int .i64 0, .bool false, .int .i64 0, .int .i64 0, .slice a n c]) (by simp [results, Try.results8, go_sem, f0, f1, f2, f3, f4, f5]) rfl ⟨_, _, _, _, _, _, _, _, rfl, by rw [HC.out]; exact hPf.mono (by omega)⟩
end Go.Proofs.Qxb6500688a
