import Derived.WalkKit
import Derived.WalkSpells
import Derived.WalkLawsBesides
import Derived.BigQuiet
namespace Go.Proofs.Qxb6500679a
open Go.RowKit

/-- A world that has grown out of w : all that lay in w lies there as it did; blocks are added, answers are drawn. -/
def ext (w : World) (x : Nat → Array Obj × Nat) : World := { w with heap := w.heap ++ (x 0).1, drawn := (x 0).2 }
theorem ext_below (w : World) (x : Nat → Array Obj × Nat) : Below w.heap.size w (ext w x) :=
  ⟨rfl, rfl, rfl, by simp [ext], fun k hk => by simp [ext, Array.getElem?_append, hk]⟩
theorem ext_cell (w : World) (x : Nat → Array Obj × Nat) (b o : Nat) (h : b < w.heap.size) : (ext w x).cell? ⟨b, o, none⟩ = w.cell? ⟨b, o, none⟩ := (ext_below w x).cell (p := ⟨b, o, none⟩) h
theorem ext_frozen (w : World) (x : Nat → Array Obj × Nat) (b o : Nat) (h : b < w.heap.size) : (ext w x).frozen? ⟨b, o, none⟩ = w.frozen? ⟨b, o, none⟩ := (ext_below w x).frozen (p := ⟨b, o, none⟩) h
theorem ext_size (w : World) (x : Nat → Array Obj × Nat) : (ext w x).heap.size = w.heap.size + (x 0).1.size := by simp [ext]
theorem ext_of {w w' : World} (h : Below w.heap.size w w') : ∃ x, w' = ext w x := by
  refine ⟨fun _ => (w'.heap.extract w.heap.size w'.heap.size, w'.drawn), ?_⟩
  obtain ⟨hp, tp, dr, os, out⟩ := w'
  obtain ⟨h1, h2, h3, h4, h5⟩ := h
  simp only at h1 h2 h3 h4 h5
  subst h1 h2 h3
  have : hp = w.heap ++ hp.extract w.heap.size hp.size := by
    apply Array.ext_getElem?
    intro i
    rw [Array.getElem?_append]
    split
    · rename_i hi; exact h5 i hi
    · rename_i hi
      rw [Array.getElem?_extract]
      split
      · congr 1; omega
      · rename_i hj; rw [Array.getElem?_eq_none]; omega
  simp only [ext]
  rw [← this]

/-! The same reads as plain 'if's: the walk's arithmetic decides their tests (a conditional law is paid two steps deep alone). -/
def newCell (w : World) (x : Nat → Array Obj × Nat) (b o : Nat) : Option Value := (ext w x).cell? ⟨b, o, none⟩
def newMark (w : World) (x : Nat → Array Obj × Nat) (b o : Nat) : Bool := (ext w x).frozen? ⟨b, o, none⟩
theorem ext_cell_if (w : World) (x : Nat → Array Obj × Nat) (b o : Nat) : (ext w x).cell? ⟨b, o, none⟩ = if b < w.heap.size then w.cell? ⟨b, o, none⟩ else newCell w x b o := by
  split
  · exact ext_cell w x b o ‹_›
  · rfl
theorem ext_frozen_if (w : World) (x : Nat → Array Obj × Nat) (b o : Nat) : (ext w x).frozen? ⟨b, o, none⟩ = if b < w.heap.size then w.frozen? ⟨b, o, none⟩ else newMark w x b o := by
  split
  · exact ext_frozen w x b o ‹_›
  · rfl
theorem alloc_cell_if (w : World) (c : Array Value) (t : TypeId) (b o : Nat) : (w.alloc (.cells c t)).cell? ⟨b, o, none⟩ = if b < w.heap.size then w.cell? ⟨b, o, none⟩ else if b = w.heap.size then c[o]? else none := by
  split
  · exact World.cell?_alloc_past _ b o ‹_›
  · split
    · exact World.cell?_alloc_at _ _ b o ‹_›
    · simp only [World.cell?]
      rw [Array.getElem?_eq_none (by simp; omega)]
theorem alloc_frozen_if (w : World) (c : Array Value) (t : TypeId) (b o : Nat) : (w.alloc (.cells c t)).frozen? ⟨b, o, none⟩ = if b < w.heap.size then w.frozen? ⟨b, o, none⟩ else false := by
  split
  · exact World.frozen?_alloc_past _ b o ‹_›
  · by_cases h : b = w.heap.size
    · exact World.frozen?_alloc_at _ _ b o h
    · simp only [World.frozen?]
      rw [Array.getElem?_eq_none (by simp; omega)]

/-- Growth upon growth is growth. -/
def cat (x y : Nat → Array Obj × Nat) : Nat → Array Obj × Nat := fun _ => ((x 0).1 ++ (y 0).1, (y 0).2)
theorem ext_ext (w : World) (x y : Nat → Array Obj × Nat) : ext (ext w x) y = ext w (cat x y) := by simp [ext, cat, Array.append_assoc]

/-- Below B nothing has turned, and B lies within. -/
def Gr (B : Nat) (a w : World) : Prop := Below B a w ∧ B ≤ w.heap.size
theorem Gr.refl (w : World) : Gr w.heap.size w w := ⟨Below.refl _ _, Nat.le_refl _⟩
theorem Gr.alloc {B : Nat} {a w : World} (h : Gr B a w) (o : Obj) : Gr B a (w.alloc o) := ⟨h.1.alloc h.2 o, by have := h.2; simp; omega⟩
theorem Gr.drew {B : Nat} {a w : World} (h : Gr B a w) : Gr B a w.drew := ⟨h.1.drew, h.2⟩
theorem Gr.ext {B : Nat} {a w : World} (h : Gr B a w) (x : Nat → Array Obj × Nat) : Gr B a (ext w x) :=
  ⟨h.1.trans ((ext_below w x).mono h.2), by rw [ext_size]; have := h.2; omega⟩
theorem Gr.setCell {B : Nat} {a w : World} (h : Gr B a w) {p : Addr} (hp : B ≤ p.block) (u : Value) : Gr B a (w.setCell p u) :=
  ⟨h.1.setCell hp u, by have := h.2; simp [World.setCell]; omega⟩
theorem Gr.grown {B : Nat} {a w w' : World} {row : Option Nat} (h : Gr B a w) (hg : w.grownBy w' row) (hr : ∀ k, row = some k → B ≤ k) : Gr B a w' :=
  ⟨h.1.grown hg h.2 hr, by have := h.2; have := hg.size; omega⟩
theorem Gr.of {w w' : World} (h : Gr w.heap.size w w') : ∃ x, w' = Qxb6500679a.ext w x := ext_of h.1

/-- A region that draws its order, whose operations read, reckon and call what leaves old memory alone: one walk in the text's order. -/
theorem wp_region_ext {P : Program} {id : Nat} {Q : Exit → Act → World → Prop} {a : Act} {w : World} {l : List Oper} (hm : P.follows .mixedOrders = true) (hB : Region.lexB .any l.toArray = true)
    (h : wpQuiet P l.toArray (fun w' => ∃ x, w' = ext w x) (fun a' => ∀ w', (∃ x, w' = ext w x) → Q .normal a' w') l a) : (Code.region id l.toArray true).wp P Q a w :=
  wp_region_quiet (C := fun w' => ∃ x, w' = ext w x) hm hB (ext_of (Below.refl _ w).drew) (by simpa using h)

/-- A callee's contract, met in a world that has grown out of w. -/
theorem Calls_ext {P : Program} {f : FuncId} {args : Array Value} {w : World} {x : Nat → Array Obj × Nat} {v : Value}
    (h : Calls P f args (ext w x) fun e w' => e = .returned v ∧ ∃ y, w' = ext (ext w x) y) : Calls P f args (ext w x) fun e w'' => e = .returned v ∧ ∃ y, w'' = ext w y :=
  h.mono fun _ _ ⟨he, y, hm⟩ => ⟨he, by rw [hm]; exact (((Gr.refl w).ext x).ext y).of⟩
theorem cat_cat (x n y : Nat → Array Obj × Nat) : cat (cat x n) y = cat x (cat n y) := by funext i; simp only [cat, Array.append_assoc]
theorem Calls_ext2 {P : Program} {f : FuncId} {args : Array Value} {w : World} {x n : Nat → Array Obj × Nat} {v : Value}
    (h : Calls P f args (ext w (cat x n)) fun e w' => e = .returned v ∧ ∃ y, w' = ext (ext w (cat x n)) y) : Calls P f args (ext w (cat x n)) fun e w'' => e = .returned v ∧ ∃ y, w'' = ext w (cat x y) :=
  h.mono fun _ _ ⟨he, y, hm⟩ => ⟨he, cat n y, by rw [hm, ext_ext, cat_cat]⟩
end Go.Proofs.Qxb6500679a
