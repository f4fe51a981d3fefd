import Derived.Test.Qxb6500679aSnap
namespace Go.Proofs.Qxb6500679a
open Go.RowKit Go.BigFrame
set_option linter.unusedSimpArgs false
attribute [local go_sem] ext_cell_if ext_frozen_if alloc_cell_if alloc_frozen_if ext_size ext_ext
/-- The script: n operations of four cells. -/
def Script (w : World) (v : Value) (n : Nat) : Prop :=
  ∃ a c, v = .slice a n c ∧ (0 < n → ∃ b off, a = some ⟨b, off, none⟩ ∧ b < w.heap.size ∧ ∀ i, i < n → ∃ k x y z : Int,
    w.cell? ⟨b, off + i * 4, none⟩ = some (.int .u8 k) ∧ w.cell? ⟨b, off + i * 4 + 1, none⟩ = some (.int .i64 x) ∧ w.cell? ⟨b, off + i * 4 + 2, none⟩ = some (.int .i64 y) ∧ w.cell? ⟨b, off + i * 4 + 3, none⟩ = some (.int .i64 z) ∧
    0 ≤ k ∧ k ≤ 255 ∧ (-9223372036854775808 ≤ x ∧ x ≤ 9223372036854775807) ∧ (-9223372036854775808 ≤ y ∧ y ≤ 9223372036854775807) ∧ (-9223372036854775808 ≤ z ∧ z ≤ 9223372036854775807))
theorem Bench.mono {A N N' : Nat} {w0 w : World} {q : Bn} (h : Bench A N w0 w q) (hN : N ≤ N') : Bench A N' w0 w q := { h with nl := Nat.le_trans h.nl hN }
/-- A new block (or one turned that is none of the bench's). -/
theorem Bench.keep {A N : Nat} {w0 w w' : World} {q : Bn} (h : Bench A N w0 w q) (hg : Gr A w0 w') (hk : ∀ g, g < w.heap.size → (∀ cs, w.heap[g]? ≠ some (.cells cs 47)) ∨ w'.heap[g]? = w.heap[g]? → w'.heap[g]? = w.heap[g]?)
    (ho : ∀ g, (Value.slice q.ea q.en q.ec).ownBlock = some g → w'.heap[g]? = w.heap[g]?) : Bench A N w0 w' q := by
  have hA : A + 1 < w.heap.size := lt_of_cells h.vb
  have nt : ∀ {g : Nat} {cs : Array Value} {t : TypeId}, w.heap[g]? = some (.cells cs t) → t ≠ 47 → w'.heap[g]? = w.heap[g]? := fun {g cs t} h1 h2 => hk g (lt_of_cells h1) (.inl fun cs' e => by rw [h1] at e; simp at e; exact h2 e.2)
  have mv : ∀ {e size n : Nat} {v : Value} {xs : List Value}, w.ownsRow (A + 2) e size v n xs → e ≠ 47 → w'.ownsRow (A + 2) e size v n xs := fun {e size n v xs} hr hne =>
    own_move hr fun g hg => by
      rcases hr.2 with ⟨rfl, _⟩ | ⟨g1, _, c1, rfl, _, hh, _⟩
      · simp [Value.ownBlock] at hg
      · simp [Value.ownBlock] at hg
        subst hg
        exact nt hh hne
  refine ⟨hg, (nt h.vo (by decide)).trans h.vo, (nt h.vb (by decide)).trans h.vb, h.sh0, h.bl, mv h.ob (by decide), h.ib, h.cl, mv h.oc (by decide), h.ic, h.el, own_move h.oe ho, h.ie, h.nl, mv h.oo (by decide), ?_⟩
  intro i hi
  obtain ⟨sb, sc, ea, sbn, scn, en, ec, sh, mo, xs, ys, h1, h2, h3, h4', h5, h6, h7, h8, h9, h10, h11, h12, h13, h14, h15⟩ := h.sn i hi
  exact ⟨sb, sc, ea, sbn, scn, en, ec, sh, mo, xs, ys, h1, h2, h3, h4', h5, h6, h7, h8, h9, mv h10 (by decide), h11, h12, mv h13 (by decide), h14, h15⟩
theorem Bench.alloc {A N : Nat} {w0 w : World} {q : Bn} (h : Bench A N w0 w q) (o : Obj) : Bench A N w0 (w.alloc o) q :=
  h.keep (h.gr.alloc o) (fun g hg _ => Below.heap_alloc w o g hg) (fun g hg => Below.heap_alloc w o g (h.oe.lt g hg).2)
theorem Bench.drew {A N : Nat} {w0 w : World} {q : Bn} (h : Bench A N w0 w q) : Bench A N w0 w.drew q :=
  h.keep h.gr.drew (fun _ _ _ => rfl) (fun _ _ => rfl)
theorem bench_start (w : World) : Bench w.heap.size 0 w ((w.alloc (.cells #[.slice none 0 0] 24)).alloc (.cells #[.slice none 0 0, .slice none 0 0, .int .u64 0, .slice none 0 0, .int .i64 0] 30)) ⟨none, 0, 0, none, 0, 0, none, 0, 0, none, 0, 0, 0, [], [], [], []⟩ := by
  refine ⟨((Gr.refl w).alloc _).alloc _, ?_, ?_, by decide, by decide, World.ownsRow_nil _ _ _ _, by simp, by decide, World.ownsRow_nil _ _ _ _, by simp, by decide, World.ownsRow_nil _ _ _ _, by simp, by decide, World.ownsRow_nil _ _ _ _, fun i hi => by simp at hi⟩
  · rw [Below.heap_alloc _ _ _ (by simp)]; exact heap_new _ _
  · have := heap_new (w.alloc (.cells #[.slice none 0 0] 24)) (.cells #[.slice none 0 0, .slice none 0 0, .int .u64 0, .slice none 0 0, .int .i64 0] 30)
    simpa using this
theorem Bench.coef {A N : Nat} {w0 w w1 : World} {q : Bn} (h : Bench A N w0 w q) {ob : Obj} {qa' : Option Addr} {qn' qc' : Nat} {z : Int} (h4 : q.cn < 32) (hz : I16 (.int .i16 z))
    (hown' : w1.ownsRow (A + 2) 50 1 (.slice qa' qn' qc') (q.cn + 1) (q.ys ++ [.int .i16 z])) (hgrow : (w.alloc ob).grownBy w1 (Value.slice q.ca q.cn q.cc).ownBlock)
    (hblk : ∀ k, (Value.slice qa' qn' qc').ownBlock = some k → (Value.slice q.ca q.cn q.cc).ownBlock = some k ∨ (w.alloc ob).heap.size ≤ k) :
    Bench A N w0 (w1.setCell ⟨A + 1, 1, none⟩ (.slice qa' qn' qc')) { q with ca := qa', cn := qn', cc := qc', ys := q.ys ++ [.int .i16 z] } := by
  have hn : qn' = q.cn + 1 := own_len hown'
  subst hn
  have hA : A + 1 < w.heap.size := lt_of_cells h.vb
  have hk : ∀ g, g < w.heap.size → some g ≠ (Value.slice q.ca q.cn q.cc).ownBlock → g ≠ A + 1 → (w1.setCell ⟨A + 1, 1, none⟩ (.slice qa' (q.cn + 1) qc')).heap[g]? = w.heap[g]? := fun g hg h1 h2 => by
    rw [blk_far h2, hgrow.block g (by simp; omega) h1]
    exact Below.heap_alloc w ob g hg
  have hnA : ∀ g, g < A + 2 → some g ≠ (Value.slice q.ca q.cn q.cc).ownBlock := fun g hg => own_ne h.oc hg
  have mv : ∀ {e size n : Nat} {v : Value} {xs : List Value}, w.ownsRow (A + 2) e size v n xs → e ≠ 50 → (w1.setCell ⟨A + 1, 1, none⟩ (.slice qa' (q.cn + 1) qc')).ownsRow (A + 2) e size v n xs := fun hr hne =>
    own_move hr fun g hg => hk g (hr.lt g hg).2 (own_apart hr h.oc hne g hg) (by have := (hr.lt g hg).1; omega)
  refine ⟨?_, ?_, ?_, h.sh0, h.bl, mv h.ob (by decide), h.ib, by simp; omega, ?_, ?_, h.el, mv h.oe (by decide), h.ie, h.nl, mv h.oo (by decide), ?_⟩
  · exact ((h.gr.alloc ob).grown hgrow (fun k hk => by have := ownBlock_ge h.oc k hk; omega)).setCell (by show A ≤ A + 1; omega) _
  · rw [hk A (by omega) (hnA A (by omega)) (by omega)]; exact h.vo
  · have hv1 : w1.heap[A + 1]? = w.heap[A + 1]? := by
      rw [hgrow.block (A + 1) (by simp; omega) (hnA _ (by omega))]
      exact Below.heap_alloc w ob _ hA
    have := blk_set (hv1.trans h.vb) 1 (.slice qa' (q.cn + 1) qc')
    simpa using this
  · refine own_move hown' fun g hg => blk_far ?_ _ _
    have := ownBlock_ge hown' g hg
    omega
  · intro u hu
    rcases List.mem_append.1 hu with hu | hu
    · exact h.ic u hu
    · simp at hu; rw [hu]; exact hz
  · intro i hi
    obtain ⟨sb, sc, ea, sbn, scn, en, ec, sh, mo, xs, ys, h1, h2, h3, h4', h5, h6, h7, h8, h9, h10, h11, h12, h13, h14, h15⟩ := h.sn i hi
    refine ⟨sb, sc, ea, sbn, scn, en, ec, sh, mo, xs, ys, h1, h2, h3, h4', h5, h6, h7, h8, h9, mv h10 (by decide), h11, h12, ?_, h14, ?_⟩
    · refine own_move h13 fun g hg => hk g (h13.lt g hg).2 ?_ (by have := (h13.lt g hg).1; omega)
      rcases h15 with h | h
      · rw [h] at hg; cases hg
      · rw [← hg]; exact h
    · exact h15.of (w := (w.alloc ob)) (fun k hk => by have := (h13.lt k hk).2; simp; omega) hblk
theorem Bench.edit {A N : Nat} {w0 w w1 : World} {q : Bn} (h : Bench A N w0 w q) {ob : Obj} {qa' : Option Addr} {qn' qc' : Nat} {news : List Value} (h4 : q.en < 64) (hz : ∀ u ∈ news, u.oneCell' = true)
    (hown' : w1.ownsRow (A + 2) 47 4 (.slice qa' qn' qc') (q.en + 1) (q.zs ++ news)) (hgrow : (w.alloc ob).grownBy w1 (Value.slice q.ea q.en q.ec).ownBlock) :
    Bench A N w0 (w1.setCell ⟨A + 1, 3, none⟩ (.slice qa' qn' qc')) { q with ea := qa', en := qn', ec := qc', zs := q.zs ++ news } := by
  have hn : qn' = q.en + 1 := own_len hown'
  subst hn
  have hA : A + 1 < w.heap.size := lt_of_cells h.vb
  have hk : ∀ g, g < w.heap.size → some g ≠ (Value.slice q.ea q.en q.ec).ownBlock → g ≠ A + 1 → (w1.setCell ⟨A + 1, 3, none⟩ (.slice qa' (q.en + 1) qc')).heap[g]? = w.heap[g]? := fun g hg h1 h2 => by
    rw [blk_far h2, hgrow.block g (by simp; omega) h1]
    exact Below.heap_alloc w ob g hg
  have hnA : ∀ g, g < A + 2 → some g ≠ (Value.slice q.ea q.en q.ec).ownBlock := fun g hg => own_ne h.oe hg
  have mv : ∀ {e size n : Nat} {v : Value} {xs : List Value}, w.ownsRow (A + 2) e size v n xs → e ≠ 47 → (w1.setCell ⟨A + 1, 3, none⟩ (.slice qa' (q.en + 1) qc')).ownsRow (A + 2) e size v n xs := fun hr hne =>
    own_move hr fun g hg => hk g (hr.lt g hg).2 (own_apart hr h.oe hne g hg) (by have := (hr.lt g hg).1; omega)
  refine ⟨?_, ?_, ?_, h.sh0, h.bl, mv h.ob (by decide), h.ib, h.cl, mv h.oc (by decide), h.ic, by simp; omega, ?_, ?_, h.nl, mv h.oo (by decide), ?_⟩
  · exact ((h.gr.alloc ob).grown hgrow (fun k hk => by have := ownBlock_ge h.oe k hk; omega)).setCell (by show A ≤ A + 1; omega) _
  · rw [hk A (by omega) (hnA A (by omega)) (by omega)]; exact h.vo
  · have hv1 : w1.heap[A + 1]? = w.heap[A + 1]? := by
      rw [hgrow.block (A + 1) (by simp; omega) (hnA _ (by omega))]
      exact Below.heap_alloc w ob _ hA
    have := blk_set (hv1.trans h.vb) 3 (.slice qa' (q.en + 1) qc')
    simpa using this
  · refine own_move hown' fun g hg => blk_far ?_ _ _
    have := ownBlock_ge hown' g hg
    omega
  · intro u hu
    rcases List.mem_append.1 hu with hu | hu
    · exact h.ie u hu
    · exact hz u hu
  · intro i hi
    obtain ⟨sb, sc, ea, sbn, scn, en, ec, sh, mo, xs, ys, h1, h2, h3, h4', h5, h6, h7, h8, h9, h10, h11, h12, h13, h14, h15⟩ := h.sn i hi
    exact ⟨sb, sc, ea, sbn, scn, en, ec, sh, mo, xs, ys, h1, h2, h3, h4', h5, h6, h7, h8, h9, mv h10 (by decide), h11, h12, mv h13 (by decide), h14, h15⟩
theorem Bench.own_far {A N : Nat} {w0 w w' : World} {q : Bn} (_h : Bench A N w0 w q) (hk : ∀ g, g ≠ A + 1 → w'.heap[g]? = w.heap[g]?) {e size n : Nat} {v : Value} {xs : List Value} (hr : w.ownsRow (A + 2) e size v n xs) : w'.ownsRow (A + 2) e size v n xs :=
  own_move hr fun g hg => hk g (by have := (hr.lt g hg).1; omega)
theorem Bench.shift {A N : Nat} {w0 w : World} {q : Bn} (h : Bench A N w0 w q) {s : Int} (hs : 0 ≤ s) : Bench A N w0 (w.setCell ⟨A + 1, 2, none⟩ (.int .u64 s)) { q with sh := s } := by
  have hk : ∀ g, g ≠ A + 1 → (w.setCell ⟨A + 1, 2, none⟩ (.int .u64 s)).heap[g]? = w.heap[g]? := fun g hg => blk_far hg _ _
  refine ⟨h.gr.setCell (by show A ≤ A + 1; omega) _, (hk A (by omega)).trans h.vo, ?_, hs, h.bl, h.own_far hk h.ob, h.ib, h.cl, h.own_far hk h.oc, h.ic, h.el, h.own_far hk h.oe, h.ie, h.nl, h.own_far hk h.oo, ?_⟩
  · have := blk_set h.vb 2 (.int .u64 s)
    simpa using this
  · intro i hi
    obtain ⟨sb, sc, ea, sbn, scn, en, ec, sh, mo, xs, ys, h1, h2, h3, h4', h5, h6, h7, h8, h9, h10, h11, h12, h13, h14, h15⟩ := h.sn i hi
    exact ⟨sb, sc, ea, sbn, scn, en, ec, sh, mo, xs, ys, h1, h2, h3, h4', h5, h6, h7, h8, h9, h.own_far hk h10, h11, h12, h.own_far hk h13, h14, h15⟩
theorem Bench.reset {A N : Nat} {w0 w : World} {q : Bn} (h : Bench A N w0 w q) : Bench A N w0 (((((w.setCell ⟨A + 1, 0, none⟩ (.slice none 0 0)).setCell ⟨A + 1, 1, none⟩ (.slice none 0 0)).setCell ⟨A + 1, 2, none⟩ (.int .u64 0)).setCell ⟨A + 1, 3, none⟩ (.slice none 0 0)).setCell ⟨A + 1, 4, none⟩ (.int .i64 0))
    { q with ba := none, bn := 0, bc := 0, ca := none, cn := 0, cc := 0, sh := 0, ea := none, en := 0, ec := 0, xs := [], ys := [], zs := [] } := by
  have hk : ∀ g, g ≠ A + 1 → (((((w.setCell ⟨A + 1, 0, none⟩ (.slice none 0 0)).setCell ⟨A + 1, 1, none⟩ (.slice none 0 0)).setCell ⟨A + 1, 2, none⟩ (.int .u64 0)).setCell ⟨A + 1, 3, none⟩ (.slice none 0 0)).setCell ⟨A + 1, 4, none⟩ (.int .i64 0)).heap[g]? = w.heap[g]? := fun g hg => by
    rw [blk_far hg, blk_far hg, blk_far hg, blk_far hg, blk_far hg]
  have ha : ∀ j, A ≤ (⟨A + 1, j, none⟩ : Addr).block := fun j => by show A ≤ A + 1; omega
  refine ⟨(((((h.gr.setCell (ha 0) _).setCell (ha 1) _).setCell (ha 2) _).setCell (ha 3) _).setCell (ha 4) _), (hk A (by omega)).trans h.vo, ?_, by simp, by simp, World.ownsRow_nil _ _ _ _, by simp, by simp, World.ownsRow_nil _ _ _ _, by simp, by simp, World.ownsRow_nil _ _ _ _, by simp, h.nl, h.own_far hk h.oo, ?_⟩
  · have := blk_set (blk_set (blk_set (blk_set (blk_set h.vb 0 (.slice none 0 0)) 1 (.slice none 0 0)) 2 (.int .u64 0)) 3 (.slice none 0 0)) 4 (.int .i64 0)
    simpa using this
  · intro i hi
    obtain ⟨sb, sc, ea, sbn, scn, en, ec, sh, mo, xs, ys, h1, h2, h3, h4', h5, h6, h7, h8, h9, h10, h11, h12, h13, h14, h15⟩ := h.sn i hi
    refine ⟨sb, sc, ea, sbn, scn, en, ec, sh, mo, xs, ys, h1, h2, h3, h4', h5, h6, h7, h8, h9, h.own_far hk h10, h11, ?_, h.own_far hk h13, h14, ?_⟩
    · cases hv : sb.ownBlock with
      | none => exact .inl hv
      | some k => exact .inr (by rw [hv]; simp [Value.ownBlock])
    · cases hv : sc.ownBlock with
      | none => exact .inl hv
      | some k => exact .inr (by rw [hv]; simp [Value.ownBlock])
theorem Bench.ext {A N : Nat} {w0 w : World} {q : Bn} (h : Bench A N w0 w q) (x : Nat → Array Obj × Nat) : Bench A N w0 (Qxb6500679a.ext w x) q :=
  h.keep (h.gr.ext x) (fun g hg _ => (ext_below w x).block g hg) (fun g hg => (ext_below w x).block g (h.oe.lt g hg).2)
/-- A store into the operation's own variable. -/
theorem Bench.kind {A N : Nat} {w0 w : World} {q : Bn} (h : Bench A N w0 w q) {g : Nat} {cs : Array Value} (hg : w.heap[g]? = some (.cells cs 47)) (hn : some g ≠ (Value.slice q.ea q.en q.ec).ownBlock) (hA : A ≤ g) (j : Nat) (v : Value) : Bench A N w0 (w.setCell ⟨g, j, none⟩ v) q :=
  h.keep (h.gr.setCell hA _) (fun g' _ hh => by
    by_cases e : g' = g
    · subst e
      rcases hh with hh | hh
      · exact absurd hg (hh _)
      · exact hh
    · exact blk_far e _ _) (fun g' hg' => blk_far (fun e => by subst e; exact hn hg'.symm) _ _)
theorem fold_val (n : Int) (w : World) : Calls Try.prog 14 #[.int .i64 n] w fun e w' => e = .returned (.int .i32 (n.tmod 33554432)) ∧ ∃ x, w' = Qxb6500679a.ext w x := by
  obtain ⟨b0, b1⟩ := tmod_bd n 33554432 (by decide)
  go_enter Try.func14, Try.ntmps14
  go_wp2
  go_ret
  exact ⟨rfl, (Gr.refl w).of⟩
end Go.Proofs.Qxb6500679a
