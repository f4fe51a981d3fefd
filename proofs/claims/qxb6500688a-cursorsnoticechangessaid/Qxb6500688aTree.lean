import Derived.Test.Qxb6500688aKit
namespace Go.Proofs.Qxb6500688a
open Go.RowKit Go.BigFrame
set_option linter.unusedSimpArgs false
attribute [local go_sem] ext_cell_if ext_frozen_if alloc_cell_if alloc_frozen_if ext_size ext_ext
/-! THE TREE. -/
structure G where
  ga : Int
  gb : Int
  la : Int
  lb : Int
  ha : -9223372036854775808 ≤ la ∧ la ≤ 9223372036854775807
  hb : -9223372036854775808 ≤ lb ∧ lb ≤ 9223372036854775807
inductive T where
  | nil
  | node (b : Nat) (l : T) (g : G) (r : T)
def T.seq : T → List (Nat × G)
  | .nil => []
  | .node b l g r => l.seq ++ (b, g) :: r.seq
def T.ht : T → Nat
  | .nil => 0
  | .node _ l _ r => 1 + max l.ht r.ht
def T.sz : T → Nat
  | .nil => 0
  | .node _ l _ r => l.sz + 1 + r.sz
def T.ptr : T → Value
  | .nil => .pointer none
  | .node b _ _ _ => .pointer (some ⟨b, 0, none⟩)
def totA : List (Nat × G) → Int
  | [] => 0
  | p :: s => p.2.ga + p.2.la + totA s
def totB : List (Nat × G) → Int
  | [] => 0
  | p :: s => p.2.gb + p.2.lb + totB s
def lenA : List (Nat × G) → Int
  | [] => 0
  | p :: s => p.2.la + lenA s
def lenB : List (Nat × G) → Int
  | [] => 0
  | p :: s => p.2.lb + lenB s
theorem totA_app (s t : List (Nat × G)) : totA (s ++ t) = totA s + totA t := by induction s with | nil => simp [totA] | cons p s ih => simp [totA, ih]; omega
theorem totB_app (s t : List (Nat × G)) : totB (s ++ t) = totB s + totB t := by induction s with | nil => simp [totB] | cons p s ih => simp [totB, ih]; omega
theorem lenA_app (s t : List (Nat × G)) : lenA (s ++ t) = lenA s + lenA t := by induction s with | nil => simp [lenA] | cons p s ih => simp [lenA, ih]; omega
theorem lenB_app (s t : List (Nat × G)) : lenB (s ++ t) = lenB s + lenB t := by induction s with | nil => simp [lenB] | cons p s ih => simp [lenB, ih]; omega
def T.blocks (t : T) : List Nat := t.seq.map (·.1)
theorem T.sz_seq (t : T) : t.seq.length = t.sz := by induction t with | nil => rfl | node b l g r ih1 ih2 => simp [T.seq, T.sz, ih1, ih2]; omega
theorem T.ht_sz (t : T) : t.ht ≤ t.sz := by induction t with | nil => simp [T.ht] | node b l g r ih1 ih2 => simp [T.ht, T.sz]; omega
theorem T.blocks_node (b : Nat) (l : T) (g : G) (r : T) : (T.node b l g r).blocks = l.blocks ++ b :: r.blocks := by simp [T.blocks, T.seq]
/-- The cells of a node over l and r. -/
def row (l : T) (g : G) (r : T) : Array Value :=
  #[l.ptr, r.ptr, .int .i64 ((1 + max l.ht r.ht : Nat) : Int), .int .i64 ((l.sz + 1 + r.sz : Nat) : Int), .int .i64 g.ga, .int .i64 g.gb, .int .i64 g.la, .int .i64 g.lb,
    .int .i64 (wrap64 (totA l.seq + (g.ga + g.la) + totA r.seq)), .int .i64 (wrap64 (totB l.seq + (g.gb + g.lb) + totB r.seq)), .int .i64 (wrap64 (lenA l.seq + g.la + lenA r.seq)), .int .i64 (wrap64 (lenB l.seq + g.lb + lenB r.seq))]
def T.Rep (w : World) : T → Prop
  | .nil => True
  | .node b l g r => w.heap[b]? = some (.cells (row l g r) 54) ∧ l.Rep w ∧ r.Rep w
theorem T.Rep.keep {w w' : World} : ∀ {t : T}, t.Rep w → (∀ b ∈ t.blocks, w'.heap[b]? = w.heap[b]?) → t.Rep w'
  | .nil, _, _ => trivial
  | .node b l g r, ⟨h1, h2, h3⟩, hk => by
    rw [T.blocks_node] at hk
    exact ⟨by rw [hk b (by simp)]; exact h1, h2.keep fun k hk' => hk k (by simp [hk']), h3.keep fun k hk' => hk k (by simp [hk'])⟩
theorem T.Rep.lt {w : World} : ∀ {t : T}, t.Rep w → ∀ b ∈ t.blocks, b < w.heap.size
  | .nil, _, b, hb => by simp [T.blocks, T.seq] at hb
  | .node c l g r, ⟨h1, h2, h3⟩, b, hb => by
    rw [T.blocks_node] at hb
    simp at hb
    rcases hb with hb | rfl | hb
    · exact h2.lt b hb
    · exact lt_of_cells h1
    · exact h3.lt b hb
/-- A node whose own numbers stand, whatever else it holds. -/
def Raw (w : World) (b : Nat) (g : G) : Prop := ∃ x0 x1 x2 x3 x8 x9 x10 x11 : Value, w.heap[b]? = some (.cells #[x0, x1, x2, x3, .int .i64 g.ga, .int .i64 g.gb, .int .i64 g.la, .int .i64 g.lb, x8, x9, x10, x11] 54)
theorem T.Rep.raw {w : World} {b : Nat} {l r : T} {g : G} (h : (T.node b l g r).Rep w) : Raw w b g := ⟨_, _, _, _, _, _, _, _, h.1⟩
theorem Raw.keep {w w' : World} {b : Nat} {g : G} (h : Raw w b g) (hk : w'.heap[b]? = w.heap[b]?) : Raw w' b g := by
  obtain ⟨x0, x1, x2, x3, x8, x9, x10, x11, h⟩ := h
  exact ⟨x0, x1, x2, x3, x8, x9, x10, x11, hk.trans h⟩
/-- From w to w' at most the blocks S have turned. -/
def Tw (S : List Nat) (w w' : World) : Prop :=
  w.heap.size ≤ w'.heap.size ∧ (∀ k, k < w.heap.size → k ∉ S → w'.heap[k]? = w.heap[k]?) ∧ ∀ B w0, Gr B w0 w → (∀ k ∈ S, B ≤ k) → Gr B w0 w'
theorem Tw.refl (w : World) : Tw [] w w := ⟨Nat.le_refl _, fun _ _ _ => rfl, fun _ _ h _ => h⟩
theorem Tw.mono {S S' : List Nat} {w w' : World} (h : Tw S w w') (hs : ∀ k ∈ S, k ∈ S') : Tw S' w w' :=
  ⟨h.1, fun k hk hn => h.2.1 k hk fun e => hn (hs k e), fun B w0 hg hb => h.2.2 B w0 hg fun k hk => hb k (hs k hk)⟩
theorem Tw.trans {S : List Nat} {w w1 w2 : World} (h : Tw S w w1) (h2 : Tw S w1 w2) : Tw S w w2 :=
  ⟨Nat.le_trans h.1 h2.1, fun k hk hn => (h2.2.1 k (by have := h.1; omega) hn).trans (h.2.1 k hk hn), fun B w0 hg hb => h2.2.2 B w0 (h.2.2 B w0 hg hb) hb⟩
theorem Tw.ext {S : List Nat} {w w1 : World} (h : Tw S w w1) (x : Nat → Array Obj × Nat) : Tw S w (ext w1 x) :=
  ⟨by rw [ext_size]; have := h.1; omega, fun k hk hn => ((ext_below w1 x).block k (by have := h.1; omega)).trans (h.2.1 k hk hn), fun B w0 hg hb => (h.2.2 B w0 hg hb).ext x⟩
theorem Tw.drew {S : List Nat} {w w1 : World} (h : Tw S w w1) : Tw S w w1.drew := ⟨h.1, h.2.1, fun B w0 hg hb => (h.2.2 B w0 hg hb).drew⟩
theorem Tw.drewN {S : List Nat} {w w1 : World} (h : Tw S w w1) (n : Nat) : Tw S w (w1.drewN n) := ⟨h.1, h.2.1, fun B w0 hg hb => gr_drewN (h.2.2 B w0 hg hb) n⟩
theorem Tw.alloc {S : List Nat} {w w1 : World} (h : Tw S w w1) (o : Obj) : Tw S w (w1.alloc o) :=
  ⟨by have := h.1; simp; omega, fun k hk hn => (Below.heap_alloc w1 o k (by have := h.1; omega)).trans (h.2.1 k hk hn), fun B w0 hg hb => (h.2.2 B w0 hg hb).alloc o⟩
theorem Tw.set {S : List Nat} {w w1 : World} (h : Tw S w w1) {b : Nat} (hb : b ∈ S) (i : Nat) (v : Value) : Tw S w (w1.setCell ⟨b, i, none⟩ v) :=
  ⟨by rw [size_setCell]; exact h.1, fun k hk hn => (blk_far (fun e => hn (by rw [e]; exact hb)) i v).trans (h.2.1 k hk hn), fun B w0 hg hS => (h.2.2 B w0 hg hS).setCell (hS b hb) v⟩
theorem T.Rep.tw {S : List Nat} {w w' : World} {t : T} (h : t.Rep w) (hT : Tw S w w') (hn : ∀ k ∈ t.blocks, k ∉ S) : t.Rep w' :=
  h.keep fun k hk => hT.2.1 k (h.lt k hk) (hn k hk)
theorem Raw.tw {S : List Nat} {w w' : World} {b : Nat} {g : G} (h : Raw w b g) (hT : Tw S w w') (hn : b ∉ S) : Raw w' b g := by
  have hb : b < w.heap.size := by obtain ⟨_, _, _, _, _, _, _, _, h⟩ := h; exact lt_of_cells h
  exact h.keep (hT.2.1 b hb hn)
theorem Tw.of_ext (w : World) (x : Nat → Array Obj × Nat) : Tw [] w (Qxb6500688a.ext w x) := (Tw.refl w).ext x
theorem wrap_idem (n : Int) : wrap64 (wrap64 n) = wrap64 n := by unfold wrap64; omega
theorem wrap_add (a b : Int) : wrap64 (wrap64 a + b) = wrap64 (a + b) := by unfold wrap64; omega
theorem wrap_add' (a b : Int) : wrap64 (a + wrap64 b) = wrap64 (a + b) := by unfold wrap64; omega
theorem spA_node (b : Nat) (l r : T) (g : G) : totA (T.node b l g r).seq = totA l.seq + (g.ga + g.la) + totA r.seq := by simp [T.seq, totA_app, totA]; omega
theorem spB_node (b : Nat) (l r : T) (g : G) : totB (T.node b l g r).seq = totB l.seq + (g.gb + g.lb) + totB r.seq := by simp [T.seq, totB_app, totB]; omega
theorem lnA_node (b : Nat) (l r : T) (g : G) : lenA (T.node b l g r).seq = lenA l.seq + g.la + lenA r.seq := by simp [T.seq, lenA_app, lenA]; omega
theorem lnB_node (b : Nat) (l r : T) (g : G) : lenB (T.node b l g r).seq = lenB l.seq + g.lb + lenB r.seq := by simp [T.seq, lenB_app, lenB]; omega
theorem drew_heap (w : World) : w.drew.heap = w.heap := rfl
/-! HEIGHT, COUNT, SPANS. -/
theorem height_any (t : T) (w : World) (h : t.Rep w) : Calls Try.prog 15 #[t.ptr] w fun e w' => e = .returned (.int .i64 (t.ht : Nat)) ∧ w' = w := by
  cases t with
  | nil =>
    simp only [T.ptr, T.ht]
    go_enter Try.func15, Try.ntmps15
    go_wp2
    go_ret
    exact ⟨rfl, rfl⟩
  | node b l g r =>
    have c := cell_of_cells h.1 2
    simp [row] at c
    simp only [T.ptr, T.ht]
    clear h
    go_enter Try.func15, Try.ntmps15
    go_wp2
    go_ret
    first | exact ⟨rfl, rfl⟩ | exact ⟨by simp, rfl⟩
theorem count_any (t : T) (w : World) (h : t.Rep w) : Calls Try.prog 16 #[t.ptr] w fun e w' => e = .returned (.int .i64 (t.sz : Nat)) ∧ w' = w := by
  cases t with
  | nil =>
    simp only [T.ptr, T.sz]
    go_enter Try.func16, Try.ntmps16
    go_wp2
    go_ret
    exact ⟨rfl, rfl⟩
  | node b l g r =>
    have c := cell_of_cells h.1 3
    simp [row] at c
    simp only [T.ptr, T.sz]
    clear h
    go_enter Try.func16, Try.ntmps16
    go_wp2
    go_ret
    first | exact ⟨rfl, rfl⟩ | exact ⟨by simp, rfl⟩
theorem spans_any (t : T) (w : World) (h : t.Rep w) : Calls Try.prog 31 #[t.ptr] w fun e w' => e = .returned (.tuple #[.int .i64 (wrap64 (totA t.seq)), .int .i64 (wrap64 (totB t.seq))]) ∧ ∃ x, w' = ext w x := by
  cases t with
  | nil =>
    simp only [T.ptr, T.seq]
    go_enter Try.func31, Try.ntmps31
    go_wp2
    go_ret2
    exact ⟨by simp [totA, totB, wrap64], (Gr.refl w).of⟩
  | node b l g r =>
    have c := cell_of_cells h.1 8
    have d := cell_of_cells h.1 9
    simp [row] at c d
    rw [spA_node, spB_node]
    simp only [T.ptr]
    clear h
    go_enter Try.func31, Try.ntmps31
    go_wp2_with (fail)
    go_quiet (fail)
    go_wp2
    go_ret2
    exact ⟨rfl, by first | exact (gr_drewN (Gr.refl w) _).of | exact (Gr.refl w).drew.of⟩
end Go.Proofs.Qxb6500688a
