import Derived.Test.Qxb6500679aApp
namespace Go.Proofs.Qxb6500679a
open Go.RowKit Go.BigFrame
set_option linter.unusedSimpArgs false
attribute [local go_sem] ext_cell_if ext_frozen_if alloc_cell_if alloc_frozen_if ext_size ext_ext
/-- Two slices' rows are apart. -/
def Apart (v u : Value) : Prop := v.ownBlock = none ∨ v.ownBlock ≠ u.ownBlock
/-- The snapshots in out's row. -/
def Snap (D : Nat) (w : World) (b c : Value) (os : List Value) (on : Nat) : Prop :=
  ∀ i, i < on → ∃ (sb sc : Value) (ea : Option Addr) (sbn scn en ec : Nat) (sh mo : Int) (xs ys : List Value),
    os[i * 5]? = some sb ∧ os[i * 5 + 1]? = some sc ∧ os[i * 5 + 2]? = some (.int .u64 sh) ∧ os[i * 5 + 3]? = some (.slice ea en ec) ∧ os[i * 5 + 4]? = some (.int .i64 mo) ∧
    0 ≤ sh ∧ (-9223372036854775808 ≤ mo ∧ mo ≤ 9223372036854775807) ∧ sbn ≤ 4100 ∧ scn ≤ 32 ∧
    w.ownsRow D 21 1 sb sbn xs ∧ (∀ u ∈ xs, I32 u) ∧ Apart sb b ∧ w.ownsRow D 50 1 sc scn ys ∧ (∀ u ∈ ys, I16 u) ∧ Apart sc c
structure Bn where
  ba : Option Addr
  bn : Nat
  bc : Nat
  ca : Option Addr
  cn : Nat
  cc : Nat
  ea : Option Addr
  en : Nat
  ec : Nat
  oa : Option Addr
  on : Nat
  oc : Nat
  sh : Int
  xs : List Value
  ys : List Value
  zs : List Value
  os : List Value
structure Bench (A N : Nat) (w0 w : World) (q : Bn) : Prop where
  gr : Gr A w0 w
  vo : w.heap[A]? = some (.cells #[.slice q.oa q.on q.oc] 24)
  vb : w.heap[A + 1]? = some (.cells #[.slice q.ba q.bn q.bc, .slice q.ca q.cn q.cc, .int .u64 q.sh, .slice q.ea q.en q.ec, .int .i64 0] 30)
  sh0 : 0 ≤ q.sh
  bl : q.bn ≤ 4100
  ob : w.ownsRow (A + 2) 21 1 (.slice q.ba q.bn q.bc) q.bn q.xs
  ib : ∀ u ∈ q.xs, I32 u
  cl : q.cn ≤ 32
  oc : w.ownsRow (A + 2) 50 1 (.slice q.ca q.cn q.cc) q.cn q.ys
  ic : ∀ u ∈ q.ys, I16 u
  el : q.en ≤ 64
  oe : w.ownsRow (A + 2) 47 4 (.slice q.ea q.en q.ec) q.en q.zs
  ie : ∀ u ∈ q.zs, u.oneCell' = true
  nl : q.on ≤ N
  oo : w.ownsRow (A + 2) 30 5 (.slice q.oa q.on q.oc) q.on q.os
  sn : Snap (A + 2) w (.slice q.ba q.bn q.bc) (.slice q.ca q.cn q.cc) q.os q.on
theorem own_len {w : World} {A e size n m : Nat} {a : Option Addr} {c : Nat} {xs : List Value} (h : w.ownsRow A e size (.slice a m c) n xs) : m = n := by
  rcases h.2 with ⟨h1, h2⟩ | ⟨_, _, _, h1, _⟩
  · have := congrArg lenOf h1; simp [lenOf] at this; omega
  · have := congrArg lenOf h1; simpa [lenOf] using this
theorem Apart.of {v u u' : Value} (h : Apart v u) {w : World} (hv : ∀ k, v.ownBlock = some k → k < w.heap.size) (hb : ∀ k, u'.ownBlock = some k → u.ownBlock = some k ∨ w.heap.size ≤ k) : Apart v u' := by
  rcases h with h | h
  · exact .inl h
  · cases hk : v.ownBlock with
    | none => exact .inl hk
    | some k =>
      refine .inr fun e => ?_
      rw [hk] at e h
      rcases hb k e.symm with h1 | h1
      · exact h h1.symm
      · have := hv k hk; omega
theorem own_apart {w : World} {D D' e e' size size' n n' : Nat} {v v' : Value} {xs xs' : List Value} (h : w.ownsRow D e size v n xs) (h' : w.ownsRow D' e' size' v' n' xs') (hne : e ≠ e') : ∀ g, v.ownBlock = some g → some g ≠ v'.ownBlock := by
  intro g hg e1
  rcases h.2 with ⟨rfl, _⟩ | ⟨g1, _, c1, rfl, _, hh, _⟩
  · simp [Value.ownBlock] at hg
  · rcases h'.2 with ⟨rfl, _⟩ | ⟨g2, _, c2, rfl, _, hh', _⟩
    · simp [Value.ownBlock] at e1
    · simp [Value.ownBlock] at hg e1
      subst hg
      subst e1
      rw [hh] at hh'
      simp at hh'
      exact hne hh'.2
theorem own_not {w : World} {D e e' size n g : Nat} {v : Value} {xs : List Value} {cs : Array Value} (h : w.ownsRow D e size v n xs) (hg : w.heap[g]? = some (.cells cs e')) (hne : e ≠ e') : some g ≠ v.ownBlock := by
  intro e1
  rcases h.2 with ⟨rfl, _⟩ | ⟨g1, _, c1, rfl, _, hh, _⟩
  · simp [Value.ownBlock] at e1
  · simp [Value.ownBlock] at e1
    subst e1
    rw [hh] at hg
    simp at hg
    exact hne hg.2
theorem Bench.push {A N : Nat} {w0 w w1 : World} {q : Bn} (h : Bench A N w0 w q) {ob : Obj} {qa' : Option Addr} {qn' qc' : Nat} {z : Int} (h4 : q.bn < 4100) (hz : I32 (.int .i32 z))
    (hown' : w1.ownsRow (A + 2) 21 1 (.slice qa' qn' qc') (q.bn + 1) (q.xs ++ [.int .i32 z])) (hgrow : (w.alloc ob).drew.grownBy w1 (Value.slice q.ba q.bn q.bc).ownBlock)
    (hblk : ∀ k, (Value.slice qa' qn' qc').ownBlock = some k → (Value.slice q.ba q.bn q.bc).ownBlock = some k ∨ (w.alloc ob).drew.heap.size ≤ k) :
    Bench A N w0 (w1.setCell ⟨A + 1, 0, none⟩ (.slice qa' qn' qc')) { q with ba := qa', bn := qn', bc := qc', xs := q.xs ++ [.int .i32 z] } := by
  have hn : qn' = q.bn + 1 := own_len hown'
  subst hn
  have hA : A + 1 < w.heap.size := lt_of_cells h.vb
  have hk : ∀ g, g < w.heap.size → some g ≠ (Value.slice q.ba q.bn q.bc).ownBlock → g ≠ A + 1 → (w1.setCell ⟨A + 1, 0, none⟩ (.slice qa' (q.bn + 1) qc')).heap[g]? = w.heap[g]? := fun g hg h1 h2 => by
    rw [blk_far h2, hgrow.block g (by simp; omega) h1]
    exact Below.heap_alloc w ob g hg
  have hnA : ∀ g, g < A + 2 → some g ≠ (Value.slice q.ba q.bn q.bc).ownBlock := fun g hg => own_ne h.ob hg
  have mv : ∀ {e size n : Nat} {v : Value} {xs : List Value}, w.ownsRow (A + 2) e size v n xs → e ≠ 21 → (w1.setCell ⟨A + 1, 0, none⟩ (.slice qa' (q.bn + 1) qc')).ownsRow (A + 2) e size v n xs := fun hr hne =>
    own_move hr fun g hg => hk g (hr.lt g hg).2 (own_apart hr h.ob hne g hg) (by have := (hr.lt g hg).1; omega)
  refine ⟨?_, ?_, ?_, h.sh0, by simp; omega, ?_, ?_, h.cl, mv h.oc (by decide), h.ic, h.el, mv h.oe (by decide), h.ie, h.nl, mv h.oo (by decide), ?_⟩
  · exact (((h.gr.alloc ob).drew).grown hgrow (fun k hk => by have := ownBlock_ge h.ob k hk; omega)).setCell (by show A ≤ A + 1; omega) _
  · rw [hk A (by omega) (hnA A (by omega)) (by omega)]; exact h.vo
  · have hv1 : w1.heap[A + 1]? = w.heap[A + 1]? := by
      rw [hgrow.block (A + 1) (by simp; omega) (hnA _ (by omega))]
      exact Below.heap_alloc w ob _ hA
    have := blk_set (hv1.trans h.vb) 0 (.slice qa' (q.bn + 1) qc')
    simpa using this
  · refine own_move hown' fun g hg => blk_far ?_ _ _
    have := ownBlock_ge hown' g hg
    omega
  · intro u hu
    rcases List.mem_append.1 hu with hu | hu
    · exact h.ib u hu
    · simp at hu; rw [hu]; exact hz
  · intro i hi
    obtain ⟨sb, sc, ea, sbn, scn, en, ec, sh, mo, xs, ys, h1, h2, h3, h4', h5, h6, h7, h8, h9, h10, h11, h12, h13, h14, h15⟩ := h.sn i hi
    refine ⟨sb, sc, ea, sbn, scn, en, ec, sh, mo, xs, ys, h1, h2, h3, h4', h5, h6, h7, h8, h9, ?_, h11, ?_, mv h13 (by decide), h14, h15⟩
    · refine own_move h10 fun g hg => hk g (h10.lt g hg).2 ?_ (by have := (h10.lt g hg).1; omega)
      rcases h12 with h | h
      · rw [h] at hg; cases hg
      · rw [← hg]; exact h
    · exact h12.of (w := (w.alloc ob).drew) (fun k hk => by have := (h10.lt k hk).2; simp; omega) hblk
theorem step_fold {ops : Array Oper} {o : Oper} {a : Act} {w : World} {K : Act → World → Prop} {Q : Exit → Act → World → Prop} {E : Prop} (hg : o.guard = none)
    (hop : o.op = .call { callee := .value (.func 14), args := #[.tmp 9], argTypes := #[2] }) (v : Int) (hx : a.eval (.tmp 9) = .int .i64 v)
    (h : ∀ z : Int, -33554432 < z → z < 33554432 → K (a.put o.dst (.int .i32 z)) w) : if Region.wanted o (yielded ops a.tmps) = true then Oper.wp Try.prog o a w K Q else E := by
  rw [if_pos (by simp [Region.wanted, hg])]
  simp only [Act.eval] at hx
  unfold Oper.wp
  simp only [execOp, hop]
  go_simp
  refine (fold_any v w).mono ?_
  rintro e w' ⟨z, h1, h2, rfl, rfl⟩
  exact h z h1 h2
set_option maxRecDepth 100000 in
set_option maxHeartbeats 400000 in
theorem push_any (A N : Nat) (w0 w : World) (q : Bn) (x : Int) (h : Bench A N w0 w q) :
    Calls Try.prog 13 #[.int .i64 x, .pointer (some ⟨A + 1, 0, none⟩)] w fun e w' => e = .returned (.tuple #[]) ∧ (∃ q', Bench A N w0 w' q') ∧ ∀ g cs, g ≠ A + 1 → w.heap[g]? = some (.cells cs 47) → w'.heap[g]? = some (.cells cs 47) := by
  have H := hidden h
  have c0 := cell_of_cells h.vb 0
  have m0 := mark_of_cells h.vb 0
  have hb := h.bl
  simp at c0
  obtain ⟨i0, hi, hz0, hz1, hz2⟩ := info_parts Try.info21
  clear h
  go_enter Try.func13, Try.ntmps13
  by_cases h4 : q.bn < 4100
  · go_wp2_with fail
    have HF := hidden (fun w => fold_any x w)
    have HO := hidden H.out.ob
    have hA : A + 1 < w.heap.size := lt_of_cells H.out.vb
    go_region_law (first
      | (refine step_fold rfl rfl x rfl ?_; intro z hz1' hz2')
      | (refine step_append_at rfl (.tmp 8) (.tmp 11) 26 rfl (A + 2) 21 i0 (.int .i32 0) 1 4 Try.underlying26 hi hz0 hz1 hz2 rfl (by decide) (.slice q.ba q.bn q.bc) q.bn q.xs (by simp [Act.eval]) (HO.out.drew.alloc _) ⟨w.heap.size, 0, none⟩ 1 1 [.int .i32 z] (by simp [Act.eval]) rfl (by intro j u hj; rcases j with _ | j <;> simp at hj; subst hj; simp [Addr.add]) (by intro u hu; simp at hu; subst hu; rfl) (by unfold maxLen; omega) (by omega) (by simp; omega) ?_; intro v' w1 hown' hgrow hblk; obtain ⟨qa', qn', qc', rfl⟩ := own_slice hown'; have hne1 : some (A + 1) ≠ (Value.slice q.ba q.bn q.bc).ownBlock := own_ne HO.out (by omega); have hvb1 : w1.heap[A + 1]? = _ := (hgrow.block (A + 1) (by simp; omega) hne1).trans (blk_alloc H.out.vb); have k0 := cell_of_cells hvb1 0; have k1 := mark_of_cells hvb1 0; simp at k0))
    all_goals
      refine bodyPost_end (results_none rfl _ _ _) rfl ⟨rfl, ⟨_, H.out.push h4 ⟨z, rfl, by omega, by omega⟩ hown' hgrow hblk⟩, fun g cs h1 h2 => ?_⟩
      have hg := lt_of_cells h2
      rw [blk_far h1, hgrow.block g (by simp; omega) (own_not H.out.ob h2 (by decide))]
      exact (Below.heap_alloc w _ g hg).trans h2
  · go_wp2
    refine bodyPost_end (results_none rfl _ _ _) rfl ?_
    exact ⟨rfl, ⟨q, H.out⟩, fun _ _ _ h => h⟩
end Go.Proofs.Qxb6500679a
