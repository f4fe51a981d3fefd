import Derived.WalkKit
import Derived.WalkSpells
import Derived.WalkLawsBesides
import Derived.BigQuiet
import Derived.StillTail
import Derived.Deep.RegionHeld3
import Derived.Deep.RegionLaw
import Derived.Deep.DeepCutAuto
import Derived.Test.Qxb6500680aGreatDoorRows
namespace Go.Proofs.Qxb6500680aGreatDoor
open Go.RowKit Go.BigFrame
set_option linter.unusedSimpArgs false

/-- A world that has grown out of w : all that lay in w lies there as it did; blocks are added, answers are drawn. -/
def ext (w : World) (x : Nat → Array Obj × Nat) : World := { w with heap := w.heap ++ (x 0).1, drawn := (x 0).2 }
theorem ext_below (w : World) (x : Nat → Array Obj × Nat) : Below w.heap.size w (ext w x) :=
  ⟨rfl, rfl, rfl, by simp [ext], fun k hk => by simp [ext, Array.getElem?_append, hk]⟩
theorem ext_cell (w : World) (x : Nat → Array Obj × Nat) (b o : Nat) (h : b < w.heap.size) : (ext w x).cell? ⟨b, o, none⟩ = w.cell? ⟨b, o, none⟩ := (ext_below w x).cell (p := ⟨b, o, none⟩) h
theorem ext_frozen (w : World) (x : Nat → Array Obj × Nat) (b o : Nat) (h : b < w.heap.size) : (ext w x).frozen? ⟨b, o, none⟩ = w.frozen? ⟨b, o, none⟩ := (ext_below w x).frozen (p := ⟨b, o, none⟩) h
theorem ext_size (w : World) (x : Nat → Array Obj × Nat) : (ext w x).heap.size = w.heap.size + (x 0).1.size := by simp [ext]
theorem ext_of {w w' : World} (h : Below w.heap.size w w') : ∃ x, w' = ext w x := by
  refine ⟨fun _ => (w'.heap.extract w.heap.size w'.heap.size, w'.drawn), ?_⟩
  obtain ⟨hp, tp, dr, os, out⟩ := w'
  obtain ⟨h1, h2, h3, h4, h5⟩ := h
  simp only at h1 h2 h3 h4 h5
  subst h1 h2 h3
  have : hp = w.heap ++ hp.extract w.heap.size hp.size := by
    apply Array.ext_getElem?
    intro i
    rw [Array.getElem?_append]
    split
    · rename_i hi; exact h5 i hi
    · rename_i hi
      rw [Array.getElem?_extract]
      split
      · congr 1; omega
      · rename_i hj; rw [Array.getElem?_eq_none]; omega
  simp only [ext]
  rw [← this]

/-! The same reads as plain 'if's: the walk's arithmetic decides their tests (a conditional law is paid two steps deep alone). -/
def newCell (w : World) (x : Nat → Array Obj × Nat) (b o : Nat) : Option Value := (ext w x).cell? ⟨b, o, none⟩
def newMark (w : World) (x : Nat → Array Obj × Nat) (b o : Nat) : Bool := (ext w x).frozen? ⟨b, o, none⟩
theorem ext_cell_if (w : World) (x : Nat → Array Obj × Nat) (b o : Nat) : (ext w x).cell? ⟨b, o, none⟩ = if b < w.heap.size then w.cell? ⟨b, o, none⟩ else newCell w x b o := by
  split
  · exact ext_cell w x b o ‹_›
  · rfl
theorem ext_frozen_if (w : World) (x : Nat → Array Obj × Nat) (b o : Nat) : (ext w x).frozen? ⟨b, o, none⟩ = if b < w.heap.size then w.frozen? ⟨b, o, none⟩ else newMark w x b o := by
  split
  · exact ext_frozen w x b o ‹_›
  · rfl
theorem alloc_cell_if (w : World) (c : Array Value) (t : TypeId) (b o : Nat) : (w.alloc (.cells c t)).cell? ⟨b, o, none⟩ = if b < w.heap.size then w.cell? ⟨b, o, none⟩ else if b = w.heap.size then c[o]? else none := by
  split
  · exact World.cell?_alloc_past _ b o ‹_›
  · split
    · exact World.cell?_alloc_at _ _ b o ‹_›
    · simp only [World.cell?]
      rw [Array.getElem?_eq_none (by simp; omega)]
theorem alloc_frozen_if (w : World) (c : Array Value) (t : TypeId) (b o : Nat) : (w.alloc (.cells c t)).frozen? ⟨b, o, none⟩ = if b < w.heap.size then w.frozen? ⟨b, o, none⟩ else false := by
  split
  · exact World.frozen?_alloc_past _ b o ‹_›
  · by_cases h : b = w.heap.size
    · exact World.frozen?_alloc_at _ _ b o h
    · simp only [World.frozen?]
      rw [Array.getElem?_eq_none (by simp; omega)]

/-- Growth upon growth is growth. -/
def cat (x y : Nat → Array Obj × Nat) : Nat → Array Obj × Nat := fun _ => ((x 0).1 ++ (y 0).1, (y 0).2)
theorem ext_ext (w : World) (x y : Nat → Array Obj × Nat) : ext (ext w x) y = ext w (cat x y) := by simp [ext, cat, Array.append_assoc]

/-- Below B nothing has turned, and B lies within. -/
def Gr (B : Nat) (a w : World) : Prop := Below B a w ∧ B ≤ w.heap.size
theorem Gr.refl (w : World) : Gr w.heap.size w w := ⟨Below.refl _ _, Nat.le_refl _⟩
theorem Gr.alloc {B : Nat} {a w : World} (h : Gr B a w) (o : Obj) : Gr B a (w.alloc o) := ⟨h.1.alloc h.2 o, by have := h.2; simp; omega⟩
theorem Gr.drew {B : Nat} {a w : World} (h : Gr B a w) : Gr B a w.drew := ⟨h.1.drew, h.2⟩
theorem Gr.ext {B : Nat} {a w : World} (h : Gr B a w) (x : Nat → Array Obj × Nat) : Gr B a (ext w x) :=
  ⟨h.1.trans ((ext_below w x).mono h.2), by rw [ext_size]; have := h.2; omega⟩
theorem Gr.setCell {B : Nat} {a w : World} (h : Gr B a w) {p : Addr} (hp : B ≤ p.block) (u : Value) : Gr B a (w.setCell p u) :=
  ⟨h.1.setCell hp u, by have := h.2; simp [World.setCell]; omega⟩
theorem Gr.grown {B : Nat} {a w w' : World} {row : Option Nat} (h : Gr B a w) (hg : w.grownBy w' row) (hr : ∀ k, row = some k → B ≤ k) : Gr B a w' :=
  ⟨h.1.grown hg h.2 hr, by have := h.2; have := hg.size; omega⟩
theorem Gr.of {w w' : World} (h : Gr w.heap.size w w') : ∃ x, w' = Qxb6500680aGreatDoor.ext w x := ext_of h.1

/-- A region that draws its order, whose operations read, reckon and call what leaves old memory alone: one walk in the text's order. -/
theorem wp_region_ext {P : Program} {id : Nat} {Q : Exit → Act → World → Prop} {a : Act} {w : World} {l : List Oper} (hm : P.follows .mixedOrders = true) (hB : Region.lexB .any l.toArray = true)
    (h : wpQuiet P l.toArray (fun w' => ∃ x, w' = ext w x) (fun a' => ∀ w', (∃ x, w' = ext w x) → Q .normal a' w') l a) : (Code.region id l.toArray true).wp P Q a w :=
  wp_region_quiet (C := fun w' => ∃ x, w' = ext w x) hm hB (ext_of (Below.refl _ w).drew) (by simpa using h)

/-- A callee's contract, met in a world that has grown out of w. -/
theorem Calls_ext {P : Program} {f : FuncId} {args : Array Value} {w : World} {x : Nat → Array Obj × Nat} {v : Value}
    (h : Calls P f args (ext w x) fun e w' => e = .returned v ∧ ∃ y, w' = ext (ext w x) y) : Calls P f args (ext w x) fun e w'' => e = .returned v ∧ ∃ y, w'' = ext w y :=
  h.mono fun _ _ ⟨he, y, hm⟩ => ⟨he, by rw [hm]; exact (((Gr.refl w).ext x).ext y).of⟩
theorem cat_cat (x n y : Nat → Array Obj × Nat) : cat (cat x n) y = cat x (cat n y) := by funext i; simp only [cat, Array.append_assoc]
theorem Calls_ext2 {P : Program} {f : FuncId} {args : Array Value} {w : World} {x n : Nat → Array Obj × Nat} {v : Value}
    (h : Calls P f args (ext w (cat x n)) fun e w' => e = .returned v ∧ ∃ y, w' = ext (ext w (cat x n)) y) : Calls P f args (ext w (cat x n)) fun e w'' => e = .returned v ∧ ∃ y, w'' = ext w (cat x y) :=
  h.mono fun _ _ ⟨he, y, hm⟩ => ⟨he, cat n y, by rw [hm, ext_ext, cat_cat]⟩
theorem lt_of_cells {W : World} {k : Nat} {ob : Obj} (h : W.heap[k]? = some ob) : k < W.heap.size := by
  rcases Nat.lt_or_ge k W.heap.size with h' | h'
  · exact h'
  · rw [Array.getElem?_eq_none h'] at h; cases h
theorem cell_of_cells {W : World} {k : Nat} {c : Array Value} {t : TypeId} (h : W.heap[k]? = some (.cells c t)) (o : Nat) : W.cell? ⟨k, o, none⟩ = c[o]? := by
  simp only [World.cell?, h]; rfl
theorem mark_of_cells {W : World} {k : Nat} {c : Array Value} {t : TypeId} (h : W.heap[k]? = some (.cells c t)) (o : Nat) : W.frozen? ⟨k, o, none⟩ = false := by
  simp [World.frozen?, h]
theorem wp_gen {P : Program} {c : Code} {Q : Exit → Act → World → Prop} {a : Act} {w : World} (S : World → Prop) (hS : S w) (h : ∀ w1, S w1 → Code.wp P c Q a w1) : Code.wp P c Q a w := h w hS
theorem cell_far {w : World} {b b' : Nat} (h : b ≠ b') (o o' : Nat) (v : Value) : (w.setCell ⟨b', o', none⟩ v).cell? ⟨b, o, none⟩ = w.cell? ⟨b, o, none⟩ :=
  World.cell?_setCell_other w ⟨b', o', none⟩ ⟨b, o, none⟩ v (fun e => h (congrArg Addr.block e).symm)
theorem size_setCell (w : World) (p : Addr) (v : Value) : (w.setCell p v).heap.size = w.heap.size := by simp [World.setCell]
theorem heap_new (w : World) (o : Obj) : (w.alloc o).heap[w.heap.size]? = some o := by show (w.heap.push o)[w.heap.size]? = _; simp
theorem blk_set {w : World} {b : Nat} {c : Array Value} {t : TypeId} (h : w.heap[b]? = some (.cells c t)) (i : Nat) (v : Value) : (w.setCell ⟨b, i, none⟩ v).heap[b]? = some (.cells (c.setIfInBounds i v) t) := by
  have hb : b < w.heap.size := lt_of_cells h
  simp only [World.setCell, Array.getElem?_modify]
  simp [h]
theorem blk_far {w : World} {b b' : Nat} (hne : b ≠ b') (i : Nat) (v : Value) : (w.setCell ⟨b', i, none⟩ v).heap[b]? = w.heap[b]? := by
  simp only [World.setCell, Array.getElem?_modify]
  rw [if_neg (Ne.symm hne)]
theorem grown_set (w : World) (p : Addr) (v : Value) : w.grownBy (w.setCell p v) (some p.block) := by
  refine ⟨rfl, rfl, rfl, by simp [World.setCell], fun k _ hne => ?_⟩
  simp only [World.setCell, Array.getElem?_modify]
  rw [if_neg (fun e => hne (by rw [e]))]
theorem blk_alloc {w : World} {b : Nat} {ob o : Obj} (h : w.heap[b]? = some ob) : (w.alloc o).heap[b]? = some ob := by
  rw [Below.heap_alloc _ _ _ (lt_of_cells h)]; exact h
theorem blk_ext {w : World} {b : Nat} {ob : Obj} {x : Nat → Array Obj × Nat} (h : w.heap[b]? = some ob) : (ext w x).heap[b]? = some ob := by
  rw [(ext_below w x).block _ (lt_of_cells h)]; exact h
theorem ownBlock_ge {w : World} {base : Nat} {e : TypeId} {size : Nat} {v : Value} {n : Nat} {xs : List Value} (h : w.ownsRow base e size v n xs) : ∀ k, v.ownBlock = some k → base ≤ k := fun k hk => (h.lt k hk).1
theorem ret_int {k : IntKind} {a b : Int} (h : a = b) : Ending.returned (.int k a) = .returned (.int k b) := by rw [h]
theorem hidden {p : Prop} (h : p) : Hid p := h
theorem tmod_bd (n m : Int) (hm : 0 < m) : -m < n.tmod m ∧ n.tmod m < m := ⟨Int.lt_tmod_of_pos n hm, Int.tmod_lt_of_pos n hm⟩
theorem wrap64_bd (z : Int) : -9223372036854775808 ≤ wrap64 z ∧ wrap64 z ≤ 9223372036854775807 := by unfold wrap64; omega
theorem step_append_own {P : Program} {ops : Array Oper} {o : Oper} {a : Act} {w : World} {K : Act → World → Prop} {Q : Exit → Act → World → Prop} {E : Prop} (hg : o.guard = none) (s x : Operand) (t : TypeId)
    (ho : o.op = .call { callee := .builtin .append, args := #[s, x], argTypes := #[t, t] })
    (base : Nat) (e : TypeId) (i : TypeInfo) (z : Value) (size bytes : Nat) (ht : P.underlying t = some (.slice e)) (hi : P.info? e = some i) (hz : i.zero = some z)
    (hsize : i.size = size) (hby : i.bytes = bytes) (hzs : z.cells.size = size) (hsz : 0 < size)
    (v : Value) (n : Nat) (xs : List Value) (hs : a.eval s = v) (hown : w.ownsRow base e size v n xs)
    (ad : Addr) (m c : Nat) (news : List Value) (hx : a.eval x = .slice (some ad) m c) (hl : news.length = m * size) (hnews : ∀ j u, news[j]? = some u → w.cell? (ad.add j) = some u) (h1 : ∀ u ∈ news, u.oneCell' = true)
    (h63 : n + m ≤ maxLen) (hbytes : (n + m) * bytes ≤ 140737488355328) (hbase : base ≤ w.heap.size)
    (h : ∀ v' w', w'.ownsRow base e size v' (n + m) (xs ++ news) → w.grownBy w' v.ownBlock → (v' = .slice none 0 0 ↔ v = .slice none 0 0 ∧ m = 0) → K (a.put o.dst v') w') :
    if Region.wanted o (yielded ops a.tmps) = true then Oper.wp P o a w K Q else E := by
  rw [if_pos (by simp [Region.wanted, hg])]
  exact wp_append_own w s x t ho base e i z size bytes ht hi hz hsize hby hzs hsz v n xs hs hown ad m c news hx hl hnews h1 h63 hbytes hbase h
theorem i64_bd (z : Int) : -9223372036854775808 ≤ IntKind.i64.wrap z ∧ IntKind.i64.wrap z ≤ 9223372036854775807 := by rw [IntKind.wrap_i64]; omega
theorem grown_ext (w : World) (x : Nat → Array Obj × Nat) (row : Option Nat) : w.grownBy (ext w x) row := ⟨rfl, rfl, rfl, by rw [ext_size]; omega, fun k hk _ => (ext_below w x).block k hk⟩
theorem own_ext {w : World} {base : Nat} {e : TypeId} {size : Nat} {v : Value} {n : Nat} {xs : List Value} (h : w.ownsRow base e size v n xs) (x : Nat → Array Obj × Nat) : (ext w x).ownsRow base e size v n xs := h.kept (grown_ext w x none) (by cases hv : v.ownBlock <;> simp)
theorem own_ne {w : World} {base : Nat} {e : TypeId} {size : Nat} {v : Value} {n : Nat} {xs : List Value} (h : w.ownsRow base e size v n xs) {g : Nat} (hg : g < base) : some g ≠ v.ownBlock := fun e' => by have := ownBlock_ge h g e'.symm; omega
theorem app_cell {wr w1 : World} {x : Nat → Array Obj × Nat} {ob : Obj} {row : Option Nat} (g o : Nat) (hne : some g ≠ row) (hgrow : ((ext wr.drew x).alloc ob).grownBy w1 row) (hg : g < wr.heap.size) {u : Value} (h : wr.cell? ⟨g, o, none⟩ = some u) : w1.cell? ⟨g, o, none⟩ = some u := by
  refine hgrow.cell (a := ⟨g, o, none⟩) ?_ hne
  rw [World.cell?_alloc_past _ g o (by rw [ext_size]; exact Nat.lt_of_lt_of_le hg (Nat.le_add_right _ _)), ext_cell _ _ _ _ (show g < wr.drew.heap.size from hg)]
  exact h
theorem own_move {A e n size : Nat} {w w' : World} {v : Value} {xs : List Value} (h : w.ownsRow A e size v n xs) (hk : ∀ g, v.ownBlock = some g → w'.heap[g]? = w.heap[g]?) : w'.ownsRow A e size v n xs := by
  refine ⟨h.1, ?_⟩
  rcases h.2 with hn | ⟨g, cap, cur, rfl, hb, hgg, rest⟩
  · exact .inl hn
  · exact .inr ⟨g, cap, cur, rfl, hb, by rw [hk g rfl]; exact hgg, rest⟩
theorem own_mono {A B e n size : Nat} {w : World} {v : Value} {xs : List Value} (h : w.ownsRow A e size v n xs) (hb : B ≤ A) : w.ownsRow B e size v n xs := by
  refine ⟨h.1, ?_⟩
  rcases h.2 with hn | ⟨g, cap, cur, rfl, hb', rest⟩
  · exact .inl hn
  · exact .inr ⟨g, cap, cur, rfl, by omega, rest⟩
theorem set_all {xs : List Value} {P : Value → Prop} (h : ∀ u ∈ xs, P u) {v : Value} (hv : P v) (j : Nat) : ∀ u ∈ xs.set j v, P u := by
  intro u hu
  rcases List.mem_or_eq_of_mem_set hu with h1 | h1
  · exact h u h1
  · rw [h1]; exact hv
theorem gr_drewN {B : Nat} {a w : World} (h : Gr B a w) (n : Nat) : Gr B a (w.drewN n) := by
  induction n with
  | zero => exact h
  | succ n ih => exact ih.drew
theorem made_all (z : Value) (P : Value → Prop) (hp : P z) (n : Nat) : ∀ u ∈ (madeCells #[z] n).toList, P u := by
  intro u hu
  rw [toList_madeCells_one] at hu
  rw [List.eq_of_mem_replicate hu]; exact hp
theorem append_block {P : Program} (w : World) (base : Nat) (t ty e : TypeId) (i : TypeInfo) (z : Value) (size bytes : Nat) (ht : P.underlying t = some (.slice e)) (hi : P.info? e = some i) (hz : i.zero = some z)
    (hsize : i.size = size) (hby : i.bytes = bytes)
    (v : Value) (n : Nat) (xs : List Value) (hown : w.ownsRow base e size v n xs)
    (a : Addr) (m c : Nat) (news : List Value) (hl : news.length = m * size) (hnews : ∀ j u, news[j]? = some u → w.cell? (a.add j) = some u) (h1 : ∀ u ∈ news, u.oneCell' = true)
    (h63 : n + m ≤ maxLen) (hbytes : (n + m) * bytes ≤ 140737488355328) {v' : Value} {w' : World}
    (hr : (Builtin.append_ #[t, t] ty #[v, .slice (some a) m c]).run P w = .ok v' w') : ∀ k, v'.ownBlock = some k → v.ownBlock = some k ∨ w.heap.size ≤ k := by
  subst hsize
  subst hby
  have hsmall : n + m ≤ 9223372036854775807 := by simp only [maxLen] at h63; omega
  intro k hk
  rcases hown.2 with ⟨rfl, rfl⟩ | ⟨g, cap, cur, rfl, hbg, hg, hnc, hcm, hcs, htake⟩
  · by_cases hm : m = 0
    · subst hm
      simp [Builtin.append_, run_underlying ht, sizeOf, typeInfo, hi, Builtin.lenOf, Builtin.firstCells, loadCells, loadCellsFrom] at hr
      rw [← hr.1] at hk
      simp [Value.ownBlock] at hk
    · have hr2 := run_append_nil (P := P) w t ty e i z ht hi hz a m c news hl hnews (by omega) (by omega) (by have hb := hbytes; simp only [Nat.zero_add] at hb; omega)
      rw [hr] at hr2
      injection hr2 with h2 h3
      rw [h2] at hk
      simp [Value.ownBlock] at hk
      exact .inr (by omega)
  · by_cases hroom : n + m ≤ cap
    · have hfit : n * i.size + news.length ≤ cur.size := by rw [hl, hcs, ← Nat.add_mul]; exact Nat.mul_le_mul_right _ hroom
      have hr2 := run_append_room (P := P) w t ty e i ht hi g n cap cur hg a m c news hl hnews h1 hroom hfit
      rw [hr] at hr2
      injection hr2 with h2 h3
      rw [h2] at hk
      exact .inl hk
    · have holds : ∀ j u, xs[j]? = some u → w.cell? ((⟨g, 0, none⟩ : Addr).add j) = some u := hown.cells (g := g) rfl
      have hr2 := run_append_grow (P := P) w t ty e i z ht hi hz ⟨g, 0, none⟩ n cap xs hown.1 holds a m c news hl hnews (by omega) (by omega) (growslice_fits (by omega) hbytes)
      rw [hr] at hr2
      injection hr2 with h2 h3
      rw [h2] at hk
      simp [Value.ownBlock] at hk
      exact .inr (by omega)
theorem wp_append_at {P : Program} {o : Oper} {a : Act} {w : World} {K : Act → World → Prop} {Q : Exit → Act → World → Prop} (s x : Operand) (t : TypeId)
    (ho : o.op = .call { callee := .builtin .append, args := #[s, x], argTypes := #[t, t] })
    (base : Nat) (e : TypeId) (i : TypeInfo) (z : Value) (size bytes : Nat) (ht : P.underlying t = some (.slice e)) (hi : P.info? e = some i) (hz : i.zero = some z)
    (hsize : i.size = size) (hby : i.bytes = bytes) (hzs : z.cells.size = size) (hsz : 0 < size)
    (v : Value) (n : Nat) (xs : List Value) (hs : a.eval s = v) (hown : w.ownsRow base e size v n xs)
    (ad : Addr) (m c : Nat) (news : List Value) (hx : a.eval x = .slice (some ad) m c) (hl : news.length = m * size) (hnews : ∀ j u, news[j]? = some u → w.cell? (ad.add j) = some u) (h1 : ∀ u ∈ news, u.oneCell' = true)
    (h63 : n + m ≤ maxLen) (hbytes : (n + m) * bytes ≤ 140737488355328) (hbase : base ≤ w.heap.size)
    (h : ∀ v' w', w'.ownsRow base e size v' (n + m) (xs ++ news) → w.grownBy w' v.ownBlock → (∀ k, v'.ownBlock = some k → v.ownBlock = some k ∨ w.heap.size ≤ k) → K (a.put o.dst v') w') : o.wp P a w K Q := by
  obtain ⟨v', w', hr, h2, h3, h4⟩ := run_append_own (P := P) w base t o.type e i z size bytes ht hi hz hsize hby hzs hsz v n xs hown ad m c news hl hnews h1 h63 hbytes hbase
  have h5 := append_block (P := P) w base t o.type e i z size bytes ht hi hz hsize hby v n xs hown ad m c news hl hnews h1 h63 hbytes hr
  unfold Oper.wp execOp
  simp only [ho, resolve, invoke, builtin, Sem.run_bind, Sem.run_pure, Result.andThen_ok, List.map_toArray, List.map_cons, List.map_nil, hs, hx, hr]
  exact h v' w' h2 h3 h5
theorem wpList_append_at {P : Program} {ops : Array Oper} {rest : List Oper} {o : Oper} {a : Act} {w : World} {Q : Exit → Act → World → Prop} (hgd : o.guard = none) (s x : Operand) (t : TypeId)
    (ho : o.op = .call { callee := .builtin .append, args := #[s, x], argTypes := #[t, t] })
    (base : Nat) (e : TypeId) (i : TypeInfo) (z : Value) (size bytes : Nat) (ht : P.underlying t = some (.slice e)) (hi : P.info? e = some i) (hz : i.zero = some z)
    (hsize : i.size = size) (hby : i.bytes = bytes) (hzs : z.cells.size = size) (hsz : 0 < size)
    (v : Value) (n : Nat) (xs : List Value) (hs : a.eval s = v) (hown : w.ownsRow base e size v n xs)
    (ad : Addr) (m c : Nat) (news : List Value) (hx : a.eval x = .slice (some ad) m c) (hl : news.length = m * size) (hnews : ∀ j u, news[j]? = some u → w.cell? (ad.add j) = some u) (h1 : ∀ u ∈ news, u.oneCell' = true)
    (h63 : n + m ≤ maxLen) (hbytes : (n + m) * bytes ≤ 140737488355328) (hbase : base ≤ w.heap.size)
    (h : ∀ v' w', w'.ownsRow base e size v' (n + m) (xs ++ news) → w.grownBy w' v.ownBlock → (∀ k, v'.ownBlock = some k → v.ownBlock = some k ∨ w.heap.size ≤ k) → wpList P ops Q rest (a.put o.dst v') w') : wpList P ops Q (o :: rest) a w :=
  wpList_plain hgd fun _ hK => wp_append_at s x t ho base e i z size bytes ht hi hz hsize hby hzs hsz v n xs hs hown ad m c news hx hl hnews h1 h63 hbytes hbase fun v' w' h2 h3 h4 => hK _ _ (h v' w' h2 h3 h4)
theorem step_append_at {P : Program} {ops : Array Oper} {o : Oper} {a : Act} {w : World} {K : Act → World → Prop} {Q : Exit → Act → World → Prop} {E : Prop} (hg : o.guard = none) (s x : Operand) (t : TypeId)
    (ho : o.op = .call { callee := .builtin .append, args := #[s, x], argTypes := #[t, t] })
    (base : Nat) (e : TypeId) (i : TypeInfo) (z : Value) (size bytes : Nat) (ht : P.underlying t = some (.slice e)) (hi : P.info? e = some i) (hz : i.zero = some z)
    (hsize : i.size = size) (hby : i.bytes = bytes) (hzs : z.cells.size = size) (hsz : 0 < size)
    (v : Value) (n : Nat) (xs : List Value) (hs : a.eval s = v) (hown : w.ownsRow base e size v n xs)
    (ad : Addr) (m c : Nat) (news : List Value) (hx : a.eval x = .slice (some ad) m c) (hl : news.length = m * size) (hnews : ∀ j u, news[j]? = some u → w.cell? (ad.add j) = some u) (h1 : ∀ u ∈ news, u.oneCell' = true)
    (h63 : n + m ≤ maxLen) (hbytes : (n + m) * bytes ≤ 140737488355328) (hbase : base ≤ w.heap.size)
    (h : ∀ v' w', w'.ownsRow base e size v' (n + m) (xs ++ news) → w.grownBy w' v.ownBlock → (∀ k, v'.ownBlock = some k → v.ownBlock = some k ∨ w.heap.size ≤ k) → K (a.put o.dst v') w') :
    if Region.wanted o (yielded ops a.tmps) = true then Oper.wp P o a w K Q else E := by
  rw [if_pos (by simp [Region.wanted, hg])]
  exact wp_append_at s x t ho base e i z size bytes ht hi hz hsize hby hzs hsz v n xs hs hown ad m c news hx hl hnews h1 h63 hbytes hbase h
def lenOf : Value → Nat
  | .slice _ n _ => n
  | _ => 0
theorem own_len {w : World} {A e size n m : Nat} {a : Option Addr} {c : Nat} {xs : List Value} (h : w.ownsRow A e size (.slice a m c) n xs) : m = n := by
  rcases h.2 with ⟨h1, h2⟩ | ⟨_, _, _, h1, _⟩
  · have := congrArg lenOf h1; simp [lenOf] at this; omega
  · have := congrArg lenOf h1; simpa [lenOf] using this
theorem own_apart {w : World} {D D' e e' size size' n n' : Nat} {v v' : Value} {xs xs' : List Value} (h : w.ownsRow D e size v n xs) (h' : w.ownsRow D' e' size' v' n' xs') (hne : e ≠ e') : ∀ g, v.ownBlock = some g → some g ≠ v'.ownBlock := by
  intro g hg e1
  rcases h.2 with ⟨rfl, _⟩ | ⟨g1, _, c1, rfl, _, hh, _⟩
  · simp [Value.ownBlock] at hg
  · rcases h'.2 with ⟨rfl, _⟩ | ⟨g2, _, c2, rfl, _, hh', _⟩
    · simp [Value.ownBlock] at e1
    · simp [Value.ownBlock] at hg e1
      subst hg
      subst e1
      rw [hh] at hh'
      simp at hh'
      exact hne hh'.2
theorem own_not {w : World} {D e e' size n g : Nat} {v : Value} {xs : List Value} {cs : Array Value} (h : w.ownsRow D e size v n xs) (hg : w.heap[g]? = some (.cells cs e')) (hne : e ≠ e') : some g ≠ v.ownBlock := by
  intro e1
  rcases h.2 with ⟨rfl, _⟩ | ⟨g1, _, c1, rfl, _, hh, _⟩
  · simp [Value.ownBlock] at e1
  · simp [Value.ownBlock] at e1
    subst e1
    rw [hh] at hg
    simp at hg
    exact hne hg.2
theorem wpList_append_copy {P : Program} {ops : Array Oper} {rest : List Oper} {o : Oper} {a : Act} {w : World} {Q : Exit → Act → World → Prop} (hgd : o.guard = none) (s x : Operand) (t : TypeId)
    (ho : o.op = .call { callee := .builtin .append, args := #[s, x], argTypes := #[t, t] })
    (D : Nat) (e : TypeId) (i : TypeInfo) (z : Value) (size bytes : Nat) (ht : P.underlying t = some (.slice e)) (hi : P.info? e = some i) (hz : i.zero = some z)
    (hsize : i.size = size) (hby : i.bytes = bytes) (hzs : z.cells.size = size) (hsz : 0 < size)
    (hs : a.eval s = .slice none 0 0) (v : Value) (n : Nat) (xs : List Value) (hx : a.eval x = v) (hown : w.ownsRow D e size v n xs) (h1 : ∀ u ∈ xs, u.oneCell' = true)
    (h63 : n ≤ maxLen) (hbytes : n * bytes ≤ 140737488355328)
    (h : ∀ v' w', w'.ownsRow w.heap.size e size v' n xs → w.grownBy w' none → wpList P ops Q rest (a.put o.dst v') w') : wpList P ops Q (o :: rest) a w := by
  refine wpList_plain hgd fun K hK => ?_
  have key : ∃ v' w', (Builtin.append_ #[t, t] o.type #[.slice none 0 0, v]).run P w = .ok v' w' ∧ w'.ownsRow w.heap.size e size v' n xs ∧ w.grownBy w' none := by
    rcases hown.2 with ⟨rfl, rfl⟩ | ⟨g, cap, cur, rfl, hbg, hg, hnc, hcm, hcs, htake⟩
    · have hx0 : xs = [] := List.eq_nil_of_length_eq_zero (by simpa using hown.1)
      subst hx0
      refine ⟨.slice none 0 0, w, ?_, World.ownsRow_nil _ _ _ _, World.grownBy.refl _ _⟩
      simp [Builtin.append_, run_underlying ht, sizeOf, typeInfo, hi, Builtin.lenOf, Builtin.firstCells, loadCells, loadCellsFrom]
    · obtain ⟨v', w', hr, h2, h3, _⟩ := run_append_own (P := P) w w.heap.size t o.type e i z size bytes ht hi hz hsize hby hzs hsz (.slice none 0 0) 0 [] (World.ownsRow_nil _ _ _ _) ⟨g, 0, none⟩ n cap xs hown.1 (hown.cells rfl) h1 (by omega) (by simpa using hbytes) (Nat.le_refl _)
      exact ⟨v', w', hr, by simpa using h2, h3⟩
  obtain ⟨v', w', hr, h2, h3⟩ := key
  unfold Oper.wp execOp
  simp only [ho, resolve, invoke, builtin, Sem.run_bind, Sem.run_pure, Result.andThen_ok, List.map_toArray, List.map_cons, List.map_nil, hs, hx, hr]
  exact hK _ _ (h v' w' h2 h3)
theorem new_cell (W : World) (cs : Array Value) (t s : Nat) (hs : s = W.heap.size) (j : Nat) : (W.alloc (.cells cs t)).cell? ⟨s, j, none⟩ = cs[j]? := by
  subst hs
  exact cell_of_cells (heap_new _ _) j
theorem Gr.step {S : Nat} {a b w : World} {T : Nat} (h : Gr S a b) (h2 : Gr T b w) (hT : S ≤ T) : Gr S a w := ⟨h.1.trans (h2.1.mono hT), by have := h2.2; omega⟩
end Go.Proofs.Qxb6500680aGreatDoor
