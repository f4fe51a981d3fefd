import Derived.Test.Qxb6500680aGreatDoorRdy
namespace Go.Proofs.Qxb6500680aGreatDoor
open Go.RowKit Go.BigFrame
set_option linter.unusedSimpArgs false
attribute [local go_sem] ext_cell_if ext_frozen_if alloc_cell_if alloc_frozen_if ext_size ext_ext
/-- The closure 'pattern' of playReal. -/
def PatOK (rb : Nat) (c : Array Value) (w : World) (e : Ending) (w' : World) : Prop := e = .returned (.tuple #[]) ∧ w'.heap[rb]? = some (.cells c 108) ∧ w.grownBy w' (some rb)
set_option maxRecDepth 100000 in
theorem pat_any (ob rb : Nat) (p fl W : Int) (o0 o2 o3 o4 o5 o6 a0 a1 a2 a3 a4 a5 a6 a7 a8 : Value) (w : World) (ho : w.heap[ob]? = some (.cells #[o0, .int .i64 W, o2, o3, o4, o5, o6] 29)) (hr : w.heap[rb]? = some (.cells #[a0, a1, a2, a3, a4, a5, a6, a7, a8] 108)) :
    Calls Tryz.prog 178 #[.int .u64 p, .int .u8 fl, .pointer (some ⟨ob, 0, none⟩), .pointer (some ⟨rb, 0, none⟩)] w (PatOK rb #[.int .u64 p, .int .i64 W, a2, .int .u8 fl, a4, a5, a6, a7, a8] w) := by
  have k1 : w.cell? ⟨ob, 1, none⟩ = some (.int .i64 W) := cell_of_cells ho 1
  have c0 : w.cell? ⟨rb, 0, none⟩ = some a0 := cell_of_cells hr 0
  have c1 : w.cell? ⟨rb, 1, none⟩ = some a1 := cell_of_cells hr 1
  have c3 : w.cell? ⟨rb, 3, none⟩ = some a3 := cell_of_cells hr 3
  have m0 := mark_of_cells hr 0
  have m1 := mark_of_cells hr 1
  have m3 := mark_of_cells hr 3
  have HR := hidden hr
  clear ho hr
  go_enter Tryz.func178, Tryz.ntmps178
  go_upto_region 0 with (fail)
  go_region
  all_goals
    refine bodyPost_end (results_none rfl _ _ _) rfl ⟨rfl, ?_, grown_trans (grown_trans (grown_set w ⟨rb, 0, none⟩ _) (grown_set _ ⟨rb, 3, none⟩ _)) (grown_trans (grown_set _ ⟨rb, 1, none⟩ _) ⟨rfl, rfl, rfl, Nat.le_refl _, fun _ _ _ => rfl⟩)⟩
    have h := blk_set (blk_set (blk_set HR.out 0 (.int .u64 p)) 3 (.int .u8 fl)) 1 (.int .i64 W)
    simp at h
    exact h
/-- The places of a run of playReal: the step, the answer's place, the format, the answer at work. -/
structure Pl (ob rv fb rb : Nat) (op fm r z : Array Value) (w0 w : World) : Prop where
  o : w.heap[ob]? = some (.cells op 29)
  v : w.heap[rv]? = some (.cells z 108)
  f : w.heap[fb]? = some (.cells fm 35)
  r : w.heap[rb]? = some (.cells r 108)
  gr : Gr w0.heap.size w0 w
  lv : w0.heap.size ≤ rv
  lr : w0.heap.size ≤ rb
  no : ob ≠ rb
  nv : rv ≠ rb
  nf : fb ≠ rb
theorem Pl.ext {ob rv fb rb : Nat} {op fm r z : Array Value} {w0 w : World} (h : Pl ob rv fb rb op fm r z w0 w) (x : Nat → Array Obj × Nat) : Pl ob rv fb rb op fm r z w0 (ext w x) := ⟨blk_ext h.o, blk_ext h.v, blk_ext h.f, blk_ext h.r, h.gr.ext x, h.lv, h.lr, h.no, h.nv, h.nf⟩
theorem Pl.pat {ob rv fb rb : Nat} {op fm r r' z : Array Value} {w0 w w' : World} {e : Ending} (h : Pl ob rv fb rb op fm r z w0 w) (hp : PatOK rb r' w e w') : Pl ob rv fb rb op fm r' z w0 w' := by
  obtain ⟨_, h1, h2⟩ := hp
  exact ⟨(h2.block ob (lt_of_cells h.o) (by simpa using h.no)).trans h.o, (h2.block rv (lt_of_cells h.v) (by simpa using h.nv)).trans h.v, (h2.block fb (lt_of_cells h.f) (by simpa using h.nf)).trans h.f, h1, h.gr.grown h2 (by intro k hk; have := h.lr; simp at hk; omega), h.lv, h.lr, h.no, h.nv, h.nf⟩
theorem Pl.set {ob rv fb rb : Nat} {op fm r z : Array Value} {w0 w : World} (h : Pl ob rv fb rb op fm r z w0 w) (i : Nat) (u : Value) : Pl ob rv fb rb op fm (r.setIfInBounds i u) z w0 (w.setCell ⟨rb, i, none⟩ u) :=
  ⟨(blk_far h.no i u).trans h.o, (blk_far h.nv i u).trans h.v, (blk_far h.nf i u).trans h.f, blk_set h.r i u, h.gr.setCell h.lr u, h.lv, h.lr, h.no, h.nv, h.nf⟩
end Go.Proofs.Qxb6500680aGreatDoor
