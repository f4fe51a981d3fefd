import Derived.Test.Qxb6500680aGreatDoorKit
import Derived.Laws.IdiomCopy
import Derived.Laws.Closers25b
import Derived.Orders
namespace Go.Proofs.Qxb6500680aGreatDoor
open Go.RowKit Go.BigFrame
set_option linter.unusedSimpArgs false
/-! SHAPES: what kind of value a place holds. -/
inductive Ce where
  | int (k : IntKind)
  | bool
def Ce.is : Ce → Ce → Bool
  | .int k, .int k' => decide (k = k')
  | .bool, .bool => true
  | _, _ => false
theorem Ce.is_eq : ∀ {a b : Ce}, a.is b = true → a = b
  | .int k, .int k', h => by simp [Ce.is] at h; rw [h]
  | .bool, .bool, _ => rfl
  | .int _, .bool, h => by simp [Ce.is] at h
  | .bool, .int _, h => by simp [Ce.is] at h
def sameL : List Ce → List Ce → Bool
  | [], [] => true
  | a :: s, b :: t => a.is b && sameL s t
  | _, _ => false
theorem sameL_eq : ∀ {s t : List Ce}, sameL s t = true → s = t
  | [], [], _ => rfl
  | a :: s, b :: t, h => by simp [sameL] at h; rw [Ce.is_eq h.1, sameL_eq h.2]
  | [], _ :: _, h => by simp [sameL] at h
  | _ :: _, [], h => by simp [sameL] at h
def InR (k : IntKind) (n : Int) : Prop := k.min ≤ n ∧ n ≤ k.max
def HasC : Ce → Value → Prop
  | .int k, v => ∃ n, v = .int k n ∧ InR k n
  | .bool, v => ∃ b, v = .bool b
theorem HasC.one {c : Ce} {v : Value} (h : HasC c v) : v.oneCell' = true ∧ v.cells = #[v] := by
  cases c with
  | int k => obtain ⟨n, rfl, _⟩ := h; exact ⟨rfl, rfl⟩
  | bool => obtain ⟨b, rfl⟩ := h; exact ⟨rfl, rfl⟩
def HasL : List Ce → List Value → Prop
  | [], [] => True
  | c :: cs, v :: vs => HasC c v ∧ HasL cs vs
  | _, _ => False
theorem HasL.len : ∀ {s : List Ce} {l : List Value}, HasL s l → l.length = s.length
  | [], [], _ => rfl
  | _ :: _, _ :: _, h => by simp [h.2.len]
  | [], _ :: _, h => by cases h
  | _ :: _, [], h => by cases h
theorem HasL.get : ∀ {s : List Ce} {l : List Value}, HasL s l → ∀ {i : Nat} {c : Ce}, s[i]? = some c → ∃ v, l[i]? = some v ∧ HasC c v
  | [], [], _, i, c, h => by simp at h
  | _ :: _, _ :: _, h, 0, c, hc => by simp at hc; subst hc; exact ⟨_, rfl, h.1⟩
  | _ :: _, _ :: _, h, i + 1, c, hc => by simp at hc; simpa using h.2.get hc
  | [], _ :: _, h, _, _, _ => by cases h
  | _ :: _, [], h, _, _, _ => by cases h
theorem HasL.drop : ∀ {s : List Ce} {l : List Value}, HasL s l → ∀ n, HasL (s.drop n) (l.drop n)
  | _, _, h, 0 => by simpa using h
  | [], [], _, n + 1 => by simp [HasL]
  | _ :: _, _ :: _, h, n + 1 => by simpa using h.2.drop n
  | [], _ :: _, h, _ => by cases h
  | _ :: _, [], h, _ => by cases h
theorem HasL.take : ∀ {s : List Ce} {l : List Value}, HasL s l → ∀ n, HasL (s.take n) (l.take n)
  | _, _, h, 0 => by simp [HasL]
  | [], [], _, n + 1 => by simp [HasL]
  | _ :: _, _ :: _, h, n + 1 => by simpa using ⟨h.1, h.2.take n⟩
  | [], _ :: _, h, _ => by cases h
  | _ :: _, [], h, _ => by cases h
theorem HasL.set : ∀ {s : List Ce} {l : List Value}, HasL s l → ∀ {i : Nat} {c : Ce} {v : Value}, s[i]? = some c → HasC c v → HasL s (l.set i v)
  | [], [], _, i, c, v, h, _ => by simp at h
  | _ :: _, _ :: _, h, 0, c, v, hc, hv => by simp at hc; subst hc; exact ⟨hv, h.2⟩
  | _ :: _, _ :: _, h, i + 1, c, v, hc, hv => by simp at hc; exact ⟨h.1, h.2.set hc hv⟩
  | [], _ :: _, h, _, _, _, _, _ => by cases h
  | _ :: _, [], h, _, _, _, _, _ => by cases h
theorem HasL.one : ∀ {s : List Ce} {l : List Value}, HasL s l → ∀ u ∈ l, u.oneCell' = true
  | [], [], _, u, hu => by simp at hu
  | _ :: _, _ :: _, h, u, hu => by
    rcases List.mem_cons.1 hu with rfl | hu
    · exact h.1.one.1
    · exact h.2.one u hu
  | [], _ :: _, h, _, _ => by cases h
  | _ :: _, [], h, _, _ => by cases h
inductive Sh1 where
  | cell (c : Ce)
  | agg (cs : List Ce)
def Sh1.is : Sh1 → Sh1 → Bool
  | .cell a, .cell b => a.is b
  | .agg s, .agg t => sameL s t
  | _, _ => false
theorem Sh1.is_eq : ∀ {a b : Sh1}, a.is b = true → a = b
  | .cell a, .cell b, h => by rw [Ce.is_eq (show a.is b = true from h)]
  | .agg s, .agg t, h => by rw [sameL_eq (show sameL s t = true from h)]
  | .cell _, .agg _, h => by simp [Sh1.is] at h
  | .agg _, .cell _, h => by simp [Sh1.is] at h
def Sh1.cells : Sh1 → List Ce
  | .cell c => [c]
  | .agg cs => cs
def Has1 : Sh1 → Value → Prop
  | .cell c, v => HasC c v
  | .agg cs, v => ∃ arr : Array Value, v = .agg arr ∧ HasL cs arr.toList
theorem Has1.cells {s : Sh1} {v : Value} (h : Has1 s v) : HasL s.cells v.cells.toList := by
  cases s with
  | cell c => rw [(show HasC c v from h).one.2]; exact ⟨h, trivial⟩
  | agg cs => obtain ⟨arr, rfl, h⟩ := h; exact h
inductive Sh where
  | one (s : Sh1)
  | tup (ss : List Sh1)
  | ptr (cs : List Ce)
def sameT : List Sh1 → List Sh1 → Bool
  | [], [] => true
  | a :: s, b :: t => a.is b && sameT s t
  | _, _ => false
theorem sameT_eq : ∀ {s t : List Sh1}, sameT s t = true → s = t
  | [], [], _ => rfl
  | a :: s, b :: t, h => by simp [sameT] at h; rw [Sh1.is_eq h.1, sameT_eq h.2]
  | [], _ :: _, h => by simp [sameT] at h
  | _ :: _, [], h => by simp [sameT] at h
def Sh.is : Sh → Sh → Bool
  | .one a, .one b => a.is b
  | .tup s, .tup t => sameT s t
  | .ptr s, .ptr t => sameL s t
  | _, _ => false
theorem Sh.is_eq : ∀ {a b : Sh}, a.is b = true → a = b
  | .one a, .one b, h => by rw [Sh1.is_eq (show a.is b = true from h)]
  | .tup s, .tup t, h => by rw [sameT_eq (show sameT s t = true from h)]
  | .ptr s, .ptr t, h => by rw [sameL_eq (show sameL s t = true from h)]
  | .one _, .tup _, h => by simp [Sh.is] at h
  | .one _, .ptr _, h => by simp [Sh.is] at h
  | .tup _, .one _, h => by simp [Sh.is] at h
  | .tup _, .ptr _, h => by simp [Sh.is] at h
  | .ptr _, .one _, h => by simp [Sh.is] at h
  | .ptr _, .tup _, h => by simp [Sh.is] at h
def HasT : List Sh1 → List Value → Prop
  | [], [] => True
  | s :: ss, v :: vs => Has1 s v ∧ HasT ss vs
  | _, _ => False
theorem HasT.get : ∀ {s : List Sh1} {l : List Value}, HasT s l → ∀ {i : Nat} {c : Sh1}, s[i]? = some c → ∃ v, l[i]? = some v ∧ Has1 c v
  | [], [], _, i, c, h => by simp at h
  | _ :: _, _ :: _, h, 0, c, hc => by simp at hc; subst hc; exact ⟨_, rfl, h.1⟩
  | _ :: _, _ :: _, h, i + 1, c, hc => by simp at hc; simpa using h.2.get hc
  | [], _ :: _, h, _, _, _ => by cases h
  | _ :: _, [], h, _, _, _ => by cases h
/-- The cells of the blocks that a call has made for itself. -/
abbrev Hp := Nat → Option (List Ce)
def Hp.le (H H' : Hp) : Prop := ∀ b L, H b = some L → H' b = some L
theorem Hp.le_refl (H : Hp) : H.le H := fun _ _ h => h
theorem Hp.le_trans {H H' H'' : Hp} (h : H.le H') (h' : H'.le H'') : H.le H'' := fun b L e => h' b L (h b L e)
def HasS (H : Hp) : Sh → Value → Prop
  | .one s, v => Has1 s v
  | .tup ss, v => ∃ arr : Array Value, v = .tuple arr ∧ HasT ss arr.toList
  | .ptr cs, v => ∃ b o L, v = .pointer (some ⟨b, o, none⟩) ∧ H b = some L ∧ cs = L.drop o
theorem HasS.le {H H' : Hp} (hl : H.le H') : ∀ {s : Sh} {v : Value}, HasS H s v → HasS H' s v
  | .one _, _, h => h
  | .tup _, _, h => h
  | .ptr _, _, ⟨b, o, L, e, h1, h2⟩ => ⟨b, o, L, e, hl b L h1, h2⟩
/-- The blocks hold what they should. -/
def WT (base : Nat) (H : Hp) (w : World) : Prop := ∀ b L, H b = some L → base ≤ b ∧ ∃ arr t, w.heap[b]? = some (.cells arr t) ∧ HasL L arr.toList
theorem WT.keep {base : Nat} {H : Hp} {w w' : World} (h : WT base H w) (hk : ∀ b, b < w.heap.size → w'.heap[b]? = w.heap[b]?) : WT base H w' := fun b L hb => by
  obtain ⟨h1, arr, t, h2, h3⟩ := h b L hb
  exact ⟨h1, arr, t, (hk b (lt_of_cells h2)).trans h2, h3⟩
theorem WT.ext {base : Nat} {H : Hp} {w : World} (h : WT base H w) (x : Nat → Array Obj × Nat) : WT base H (Qxb6500680aGreatDoor.ext w x) := h.keep fun b hb => (ext_below w x).block b hb
def Hp.add (H : Hp) (b : Nat) (L : List Ce) : Hp := fun k => if k = b then some L else H k
theorem Hp.le_add {base : Nat} {H : Hp} {w : World} (h : WT base H w) (L : List Ce) : H.le (H.add w.heap.size L) := fun b L' e => by
  obtain ⟨_, arr, t, h2, _⟩ := h b L' e
  have := lt_of_cells h2
  simp only [Hp.add]
  rw [if_neg (by omega)]
  exact e
theorem WT.alloc {base : Nat} {H : Hp} {w : World} (h : WT base H w) (hb : base ≤ w.heap.size) {L : List Ce} {arr : Array Value} (t : TypeId) (hl : HasL L arr.toList) : WT base (H.add w.heap.size L) (w.alloc (.cells arr t)) := fun b L' e => by
  simp only [Hp.add] at e
  by_cases hbw : b = w.heap.size
  · rw [if_pos hbw] at e
    simp at e
    subst e
    subst hbw
    exact ⟨hb, arr, t, heap_new _ _, hl⟩
  · rw [if_neg hbw] at e
    obtain ⟨h1, arr', t', h2, h3⟩ := h b L' e
    exact ⟨h1, arr', t', blk_alloc h2, h3⟩
theorem WT.set {base : Nat} {H : Hp} {w : World} (h : WT base H w) {b i : Nat} {L : List Ce} {c : Ce} {v : Value} (hb : H b = some L) (hi : L[i]? = some c) (hv : HasC c v) : WT base H (w.setCell ⟨b, i, none⟩ v) := fun b' L' e => by
  by_cases hbb : b' = b
  · subst hbb
    rw [hb] at e
    simp at e
    subst e
    obtain ⟨h1, arr, t, h2, h3⟩ := h b' L hb
    refine ⟨h1, _, t, blk_set h2 i v, ?_⟩
    rw [Array.toList_setIfInBounds]
    exact h3.set hi hv
  · obtain ⟨h1, arr, t, h2, h3⟩ := h b' L' e
    exact ⟨h1, arr, t, (blk_far hbb i v).trans h2, h3⟩
end Go.Proofs.Qxb6500680aGreatDoor
