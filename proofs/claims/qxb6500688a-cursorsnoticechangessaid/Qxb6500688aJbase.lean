import Derived.Test.Qxb6500688aRow
namespace Go.Proofs.Qxb6500688a
open Go.RowKit Go.BigFrame
set_option linter.unusedSimpArgs false
attribute [local go_sem] ext_cell_if ext_frozen_if alloc_cell_if alloc_frozen_if ext_size ext_ext
/-- What the joining functions answer. -/
def JoinOK (w : World) (l : T) (b : Nat) (g : G) (r : T) (e : Ending) (w' : World) : Prop :=
  ∃ t : T, e = .returned t.ptr ∧ t.seq = l.seq ++ (b, g) :: r.seq ∧ t.Rep w' ∧ Tw (l.blocks ++ b :: r.blocks) w w'
theorem blocks_of {t : T} {s : List (Nat × G)} (h : t.seq = s) : t.blocks = s.map (·.1) := by unfold T.blocks; rw [h]
theorem sz_of {t l r : T} {b : Nat} {g : G} (h : t.seq = l.seq ++ (b, g) :: r.seq) : t.sz = l.sz + 1 + r.sz := by
  rw [← T.sz_seq, h, ← T.sz_seq, ← T.sz_seq]; simp; omega
theorem glueR {ll lr r t' : T} {lb b : Nat} {lg g : G} {w w1 : World} (hl : (T.node lb ll lg lr).Rep w) (hn : ((T.node lb ll lg lr).blocks ++ b :: r.blocks).Nodup) (hseq : t'.seq = lr.seq ++ (b, g) :: r.seq)
    (hT : Tw (lr.blocks ++ b :: r.blocks) w w1) (ht : t'.Rep w1) (hsz : (T.node lb ll lg lr).sz + r.sz ≤ 50000) :
    Calls Try.prog 42 #[ll.ptr, .pointer (some ⟨lb, 0, none⟩), t'.ptr] w1 fun e w' => e = .returned (.pointer (some ⟨lb, 0, none⟩)) ∧ (T.node lb ll lg t').Rep w' ∧ Tw [lb] w1 w' := by
  rw [T.blocks_node, List.append_assoc, List.nodup_append] at hn
  obtain ⟨_, hn2, hn3⟩ := hn
  simp only [List.cons_append, List.nodup_cons] at hn2
  have hb' := blocks_of hseq
  simp only [List.map_append, List.map_cons] at hb'
  have hbt : t'.blocks = lr.blocks ++ b :: r.blocks := hb'
  have hs := sz_of hseq
  refine link_any ll t' lb lg w1 (hl.2.1.tw hT fun k hk e => hn3 k hk k (by simpa using Or.inr e) rfl) ht (hl.raw.tw hT hn2.1) (fun e => hn3 lb e lb (by simp) rfl) (by rw [hbt]; exact hn2.1) ?_
  simp only [T.sz] at hsz
  omega
theorem glueL {l rl rr t' : T} {rb b : Nat} {rg g : G} {w w1 : World} (hr : (T.node rb rl rg rr).Rep w) (hn : (l.blocks ++ b :: (T.node rb rl rg rr).blocks).Nodup) (hseq : t'.seq = l.seq ++ (b, g) :: rl.seq)
    (hT : Tw (l.blocks ++ b :: rl.blocks) w w1) (ht : t'.Rep w1) (hsz : l.sz + (T.node rb rl rg rr).sz ≤ 50000) :
    Calls Try.prog 42 #[t'.ptr, .pointer (some ⟨rb, 0, none⟩), rr.ptr] w1 fun e w' => e = .returned (.pointer (some ⟨rb, 0, none⟩)) ∧ (T.node rb t' rg rr).Rep w' ∧ Tw [rb] w1 w' := by
  rw [T.blocks_node, show l.blocks ++ b :: (rl.blocks ++ rb :: rr.blocks) = (l.blocks ++ b :: rl.blocks) ++ rb :: rr.blocks by simp, List.nodup_append] at hn
  obtain ⟨_, hn2, hn3⟩ := hn
  rw [List.nodup_cons] at hn2
  have hbt : t'.blocks = l.blocks ++ b :: rl.blocks := by rw [blocks_of hseq]; simp [T.blocks]
  have hs := sz_of hseq
  refine link_any t' rr rb rg w1 ht (hr.2.2.tw hT fun k hk e => hn3 k e k (by simp [hk]) rfl) (hr.raw.tw hT fun e => hn3 rb e rb (by simp) rfl) (by rw [hbt]; exact fun e => hn3 rb e rb (by simp) rfl) hn2.1 ?_
  simp only [T.sz] at hsz
  omega
theorem T.nonnil {t : T} {s u : List (Nat × G)} {p : Nat × G} (h : t.seq = s ++ p :: u) : ∃ yb yl yg yr, t = T.node yb yl yg yr := by
  cases t with
  | nil => simp [T.seq] at h
  | node yb yl yg yr => exact ⟨yb, yl, yg, yr, rfl⟩
theorem height_ext (t : T) (w : World) (h : t.Rep w) (x : Nat → Array Obj × Nat) : Calls Try.prog 15 #[t.ptr] (ext w x) fun e w' => e = .returned (.int .i64 (t.ht : Nat)) ∧ ∃ y, w' = ext (ext w x) y :=
  (height_any t _ (h.tw (Tw.of_ext w x) (by simp))).mono fun _ _ ⟨h1, h2⟩ => ⟨h1, by rw [h2]; exact (Gr.refl _).of⟩
theorem ht_cell {w : World} {b : Nat} {l r : T} {g : G} (h : w.heap[b]? = some (.cells (row l g r) 54)) : w.cell? ⟨b, 2, none⟩ = some (.int .i64 ((1 + max l.ht r.ht : Nat) : Int)) := cell_of_cells h 2
end Go.Proofs.Qxb6500688a
