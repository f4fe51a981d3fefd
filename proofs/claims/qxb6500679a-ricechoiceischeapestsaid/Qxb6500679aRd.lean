import Derived.Test.Qxb6500679aCost
namespace Go.Proofs.Qxb6500679a
open Go.RowKit Go.BigFrame
set_option linter.unusedSimpArgs false
/-! ROWS AND VARIABLES, AS BLOCKS. -/
theorem heap_new (w : World) (o : Obj) : (w.alloc o).heap[w.heap.size]? = some o := by show (w.heap.push o)[w.heap.size]? = _; simp
theorem blk_set {w : World} {b : Nat} {c : Array Value} {t : TypeId} (h : w.heap[b]? = some (.cells c t)) (i : Nat) (v : Value) : (w.setCell ⟨b, i, none⟩ v).heap[b]? = some (.cells (c.setIfInBounds i v) t) := by
  have hb : b < w.heap.size := lt_of_cells h
  simp only [World.setCell, Array.getElem?_modify]
  simp [h]
theorem blk_far {w : World} {b b' : Nat} (hne : b ≠ b') (i : Nat) (v : Value) : (w.setCell ⟨b', i, none⟩ v).heap[b]? = w.heap[b]? := by
  simp only [World.setCell, Array.getElem?_modify]
  rw [if_neg (Ne.symm hne)]
theorem grown_set (w : World) (p : Addr) (v : Value) : w.grownBy (w.setCell p v) (some p.block) := by
  refine ⟨rfl, rfl, rfl, by simp [World.setCell], fun k _ hne => ?_⟩
  simp only [World.setCell, Array.getElem?_modify]
  rw [if_neg (fun e => hne (by rw [e]))]
theorem blk_alloc {w : World} {b : Nat} {ob o : Obj} (h : w.heap[b]? = some ob) : (w.alloc o).heap[b]? = some ob := by
  rw [Below.heap_alloc _ _ _ (lt_of_cells h)]; exact h
theorem blk_ext {w : World} {b : Nat} {ob : Obj} {x : Nat → Array Obj × Nat} (h : w.heap[b]? = some ob) : (ext w x).heap[b]? = some ob := by
  rw [(ext_below w x).block _ (lt_of_cells h)]; exact h
/-- A slice value, and the numbers that it reads; its row is one of the blocks A .. B - 1. -/
def Rd (A B : Nat) (w : World) (k : IntKind) (v : Value) (l : List Nat) : Prop :=
  ∃ a c, v = .slice a l.length c ∧ l.length ≤ c ∧ (l ≠ [] → ∃ g, a = some ⟨g, 0, none⟩ ∧ A ≤ g ∧ g < B ∧ ∀ j (h : j < l.length), w.cell? ⟨g, j, none⟩ = some (.int k (l[j] : Nat)))
theorem Rd.keep {A B : Nat} {w w' : World} {k : IntKind} {v : Value} {l : List Nat} (h : Rd A B w k v l) (hb : ∀ g, A ≤ g → g < B → w'.heap[g]? = w.heap[g]?) : Rd A B w' k v l := by
  obtain ⟨a, c, h1, h2, h3⟩ := h
  refine ⟨a, c, h1, h2, fun hl => ?_⟩
  obtain ⟨g, g1, g2, g2', g3⟩ := h3 hl
  exact ⟨g, g1, g2, g2', fun j hj => by rw [World.cell?_of_block (a := ⟨g, j, none⟩) (hb g g2 g2')]; exact g3 j hj⟩
theorem Rd.below {A B : Nat} {w w' : World} {k : IntKind} {v : Value} {l : List Nat} (h : Rd A B w k v l) (hb : Below B w w') : Rd A B w' k v l := h.keep fun g _ hg => hb.block g hg
theorem Rd.set {A B : Nat} {w : World} {k : IntKind} {v : Value} {l : List Nat} (h : Rd A B w k v l) (b i : Nat) (u : Value) (hb : b < A ∨ B ≤ b) : Rd A B (w.setCell ⟨b, i, none⟩ u) k v l := h.keep fun g h1 h2 => blk_far (by omega) i u
theorem Rd.mono {A B A' B' : Nat} {w : World} {k : IntKind} {v : Value} {l : List Nat} (h : Rd A B w k v l) (ha : A' ≤ A) (hb : B ≤ B') : Rd A' B' w k v l := by
  obtain ⟨a, c, h1, h2, h3⟩ := h
  refine ⟨a, c, h1, h2, fun hl => ?_⟩
  obtain ⟨g, g1, g2, g2', g3⟩ := h3 hl
  exact ⟨g, g1, by omega, by omega, g3⟩
theorem Rd.own {w : World} {base : Nat} {e : TypeId} {k : IntKind} {v : Value} {l : List Nat} (h : w.ownsRow base e 1 v l.length (l.map fun (n : Nat) => Value.int k (n : Int))) : Rd base w.heap.size w k v l := by
  have h0 := h
  obtain ⟨hl, ⟨rfl, h1⟩ | ⟨g, cap, cur, rfl, hg, hh, hn, _⟩⟩ := h
  · exact ⟨none, 0, by rw [h1], by omega, fun hne => absurd (List.eq_nil_of_length_eq_zero h1) hne⟩
  · refine ⟨_, cap, rfl, hn, fun _ => ⟨g, rfl, hg, lt_of_cells hh, fun j hj => ?_⟩⟩
    rw [h0.cellAt j (by omega)]
    simp [hj]
theorem ownBlock_ge {w : World} {base : Nat} {e : TypeId} {size : Nat} {v : Value} {n : Nat} {xs : List Value} (h : w.ownsRow base e size v n xs) : ∀ k, v.ownBlock = some k → base ≤ k := fun k hk => (h.lt k hk).1
end Go.Proofs.Qxb6500679a
