import Derived.Test.Qxb6500688aOps
import Derived.Test.Qxb6500688aStale
namespace Go.Proofs.Qxb6500688a
open Go.RowKit Go.BigFrame
set_option linter.unusedSimpArgs false
attribute [local go_sem] ext_cell_if ext_frozen_if alloc_cell_if alloc_frozen_if ext_size ext_ext
/-- The index has changed; the new tree's blocks are old ones or lie from D on. -/
def Ch (ib : Nat) (t : T) (ver : Int) (D : Nat) (w w' : World) : Prop :=
  ∃ t' : T, Ix w' ib t' (IntKind.u64.wrap (ver + 1)) ∧ Tw (ib :: t.blocks) w w' ∧ ∀ k ∈ t'.blocks, k ∈ t.blocks ∨ D ≤ k
theorem Ch.set {ib D : Nat} {t : T} {ver : Int} {w w' : World} (h : Ch ib t ver D w w') (hx : Ix w ib t ver) {g : Nat} (hg : w.heap.size ≤ g) (hD : g < D) (j : Nat) (v : Value) : Ch ib t ver D w (w'.setCell ⟨g, j, none⟩ v) := by
  obtain ⟨t', h1, h2, h3⟩ := h
  have hne : ∀ k, k = ib ∨ k ∈ t'.blocks → k ≠ g := fun k hk e => by
    subst e
    rcases hk with hk | hk
    · have := lt_of_cells hx.cell; omega
    · rcases h3 k hk with hk | hk
      · have := hx.rep.lt k hk; omega
      · omega
  refine ⟨t', ⟨(blk_far (hne ib (.inl rfl)) _ _).trans h1.cell, h1.rep.keep fun b hb => blk_far (hne b (.inr hb)) _ _, h1.nd, h1.out, h1.sz, h1.ver0⟩, ?_, h3⟩
  exact h2.new (((Tw.refl w').mono (S' := [g]) (by simp)).set (by simp) j v) (fun k hk => by simp at hk; subst hk; exact .inr hg)
theorem Ch.of {ib D : Nat} {t t' : T} {ver : Int} {w w0 w' : World} (hg : Gr w.heap.size w w0) (hD : D ≤ w0.heap.size) (h1 : Ix w' ib t' (IntKind.u64.wrap (ver + 1))) (h2 : Tw (ib :: t.blocks) w0 w') (h3 : ∀ k ∈ t'.blocks, k ∈ t.blocks ∨ w0.heap.size ≤ k) : Ch ib t ver D w w' :=
  ⟨t', h1, ((Tw.of_gr hg).mono (by simp)).trans h2, fun k hk => by rcases h3 k hk with h | h; exact .inl h; exact .inr (by omega)⟩
/-- What a step of kind k leaves, n its code. -/
def Pd (ib : Nat) (t : T) (ver : Int) (D : Nat) (w : World) (k n : Int) (w' : World) : Prop :=
  ((k = 0 ∨ k = 1 ∨ k = 2) ∧ ((n = 0 ∧ Ch ib t ver D w w') ∨ (1 ≤ n ∧ Gr w.heap.size w w'))) ∨ (k = 7 ∧ Ch ib t ver D w w') ∨ (3 ≤ k ∧ k ≠ 7 ∧ Gr w.heap.size w w')
theorem Pd.set {ib D : Nat} {t : T} {ver k n : Int} {w w' : World} (h : Pd ib t ver D w k n w') (hx : Ix w ib t ver) {g : Nat} (hg : w.heap.size ≤ g) (hD : g < D) (j : Nat) (v : Value) : Pd ib t ver D w k n (w'.setCell ⟨g, j, none⟩ v) := by
  rcases h with ⟨h1, ⟨h2, h3⟩ | ⟨h2, h3⟩⟩ | ⟨h1, h2⟩ | ⟨h1, h2, h3⟩
  · exact .inl ⟨h1, .inl ⟨h2, h3.set hx hg hD j v⟩⟩
  · exact .inl ⟨h1, .inr ⟨h2, h3.setCell hg v⟩⟩
  · exact .inr (.inl ⟨h1, h2.set hx hg hD j v⟩)
  · exact .inr (.inr ⟨h1, h2, h3.setCell hg v⟩)
theorem Pd.of {ib : Nat} {t : T} {ver k n : Int} {D : Nat} {w w0 w' : World} (hk : k = 0 ∨ k = 1 ∨ k = 2) (hg : Gr w.heap.size w w0) (hD : D ≤ w0.heap.size) (h : Sp ib t ver w0 n w') : Pd ib t ver D w k n w' := by
  rcases h with ⟨h1, t', h2, h3, h4⟩ | ⟨h1, x, rfl⟩
  · exact .inl ⟨hk, .inl ⟨h1, .of hg hD h2 h3 h4⟩⟩
  · exact .inl ⟨hk, .inr ⟨h1, hg.ext x⟩⟩
theorem Sp.keep {ib : Nat} {t : T} {ver n : Int} {w0 w' : World} (h : Sp ib t ver w0 n w') {g : Nat} (hg : g < w0.heap.size) (hi : g ≠ ib) (ht : g ∉ t.blocks) : w'.heap[g]? = w0.heap[g]? := by
  rcases h with ⟨h1, t', h2, h3, h4⟩ | ⟨h1, x, rfl⟩
  · exact h3.2.1 g hg (by simp; exact ⟨hi, ht⟩)
  · exact (ext_below w0 x).block g hg
/-- What play answers. -/
def PlayOK (ib : Nat) (t : T) (ver k : Int) (w : World) (e : Ending) (w' : World) : Prop :=
  ∃ (n i A B : Int) (b : Bool) (ha : Option Addr) (hm hc : Nat), e = .returned (.agg #[.int .u8 n, .int .i64 i, .bool b, .int .i64 A, .int .i64 B, .slice ha hm hc]) ∧ Pd ib t ver w.heap.size w k n w'
theorem Pd.mono {ib D D' : Nat} {t : T} {ver k n : Int} {w w' : World} (h : Pd ib t ver D w k n w') (hD : D' ≤ D) : Pd ib t ver D' w k n w' := by
  have hc : Ch ib t ver D w w' → Ch ib t ver D' w w' := fun ⟨t', h1, h2, h3⟩ => ⟨t', h1, h2, fun k hk => by rcases h3 k hk with h | h; exact .inl h; exact .inr (by omega)⟩
  rcases h with ⟨h1, ⟨h2, h3⟩ | ⟨h2, h3⟩⟩ | ⟨h1, h2⟩ | ⟨h1, h2, h3⟩
  · exact .inl ⟨h1, .inl ⟨h2, hc h3⟩⟩
  · exact .inl ⟨h1, .inr ⟨h2, h3⟩⟩
  · exact .inr (.inl ⟨h1, hc h2⟩)
  · exact .inr (.inr ⟨h1, h2, h3⟩)
/-- The result's two variables: R the result's own, R + 1 the variable res. -/
def Rv (R : Nat) (w : World) (n i A B : Int) (b : Bool) (ha : Option Addr) (hm hc : Nat) : Prop :=
  w.heap[R]? = some (.cells #[.int .u8 0, .int .i64 0, .bool false, .int .i64 0, .int .i64 0, .slice none 0 0] 37) ∧ w.heap[R + 1]? = some (.cells #[.int .u8 n, .int .i64 i, .bool b, .int .i64 A, .int .i64 B, .slice ha hm hc] 37)
theorem Rv.keep {R : Nat} {w w' : World} {n i A B : Int} {b : Bool} {ha : Option Addr} {hm hc : Nat} (h : Rv R w n i A B b ha hm hc) (hk : ∀ g, g < w.heap.size → (g = R ∨ g = R + 1) → w'.heap[g]? = w.heap[g]?) : Rv R w' n i A B b ha hm hc :=
  ⟨(hk R (lt_of_cells h.1) (.inl rfl)).trans h.1, (hk (R + 1) (lt_of_cells h.2) (.inr rfl)).trans h.2⟩
theorem Rv.gr {R : Nat} {w w' : World} {n i A B : Int} {b : Bool} {ha : Option Addr} {hm hc : Nat} (h : Rv R w n i A B b ha hm hc) (hg : Gr w.heap.size w w') : Rv R w' n i A B b ha hm hc := h.keep fun g hg' _ => hg.1.block g hg'
theorem Rv.code {R : Nat} {w : World} {n i A B : Int} {b : Bool} {ha : Option Addr} {hm hc : Nat} (h : Rv R w n i A B b ha hm hc) (n' : Int) : Rv R (w.setCell ⟨R + 1, 0, none⟩ (.int .u8 n')) n' i A B b ha hm hc :=
  ⟨(blk_far (by omega) _ _).trans h.1, by have := blk_set h.2 0 (.int .u8 n'); simpa using this⟩
theorem Rv.hunks {R : Nat} {w : World} {n i A B : Int} {b : Bool} {ha : Option Addr} {hm hc : Nat} (h : Rv R w n i A B b ha hm hc) (ha' : Option Addr) (hm' hc' : Nat) : Rv R (w.setCell ⟨R + 1, 5, none⟩ (.slice ha' hm' hc')) n i A B b ha' hm' hc' :=
  ⟨(blk_far (by omega) _ _).trans h.1, by have := blk_set h.2 5 (.slice ha' hm' hc'); simpa using this⟩
theorem Rv.place {R : Nat} {w : World} {n i A B : Int} {b : Bool} {ha : Option Addr} {hm hc : Nat} (h : Rv R w n i A B b ha hm hc) (i' A' B' : Int) (b' : Bool) :
    Rv R ((((w.setCell ⟨R + 1, 1, none⟩ (.int .i64 i')).setCell ⟨R + 1, 2, none⟩ (.bool b')).setCell ⟨R + 1, 3, none⟩ (.int .i64 A')).setCell ⟨R + 1, 4, none⟩ (.int .i64 B')) n i' A' B' b' ha hm hc :=
  ⟨(blk_far (by omega) _ _).trans ((blk_far (by omega) _ _).trans ((blk_far (by omega) _ _).trans ((blk_far (by omega) _ _).trans h.1))), by have := blk_set (blk_set (blk_set (blk_set h.2 1 (.int .i64 i')) 2 (.bool b')) 3 (.int .i64 A')) 4 (.int .i64 B'); simpa using this⟩
end Go.Proofs.Qxb6500688a
