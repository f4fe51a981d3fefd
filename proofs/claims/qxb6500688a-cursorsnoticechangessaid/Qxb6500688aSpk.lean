import Derived.Test.Qxb6500688aMg
import Derived.Test.Qxb6500688aLeaf
namespace Go.Proofs.Qxb6500688a
open Go.RowKit Go.BigFrame
set_option linter.unusedSimpArgs false
theorem Tw.of_gr {w w' : World} (h : Gr w.heap.size w w') : Tw [] w w' :=
  ⟨h.2, fun k hk _ => h.1.block k hk, fun _ _ hg _ => hg.step h hg.2⟩
theorem T.Rep.ty {w : World} : ∀ {t : T}, t.Rep w → ∀ b ∈ t.blocks, ∃ cs, w.heap[b]? = some (.cells cs 54)
  | .nil, _, b, hb => by simp [T.blocks, T.seq] at hb
  | .node c l g r, ⟨h1, h2, h3⟩, b, hb => by
    rw [T.blocks_node] at hb
    simp at hb
    rcases hb with hb | rfl | hb
    · exact h2.ty b hb
    · exact ⟨_, h1⟩
    · exact h3.ty b hb
/-- What Splice leaves: n its answer. -/
def Sp (ib : Nat) (t : T) (ver : Int) (w : World) (n : Int) (w' : World) : Prop :=
  (n = 0 ∧ ∃ t' : T, Ix w' ib t' (IntKind.u64.wrap (ver + 1)) ∧ Tw (ib :: t.blocks) w w' ∧ ∀ k ∈ t'.blocks, k ∈ t.blocks ∨ w.heap.size ≤ k) ∨ (1 ≤ n ∧ ∃ x, w' = ext w x)
/-- What Splice answers. -/
def SpliceOK (ib : Nat) (t : T) (ver : Int) (w : World) (e : Ending) (w' : World) : Prop := ∃ n : Int, e = .returned (.int .u8 n) ∧ (0 ≤ n ∧ n ≤ 4) ∧ Sp ib t ver w n w'
theorem SpliceOK.no {ib : Nat} {t : T} {ver : Int} {w w' : World} (n : Int) (h1 : 1 ≤ n) (h4 : n ≤ 4) (hg : Gr w.heap.size w w') : SpliceOK ib t ver w (.returned (.int .u8 n)) w' := ⟨n, rfl, ⟨by omega, h4⟩, .inr ⟨h1, hg.of⟩⟩
/-- The last loop of Splice: the tree l' that grows, the right rest R. -/
structure L3 (ib S n c : Nat) (ver : Int) (t R : T) (w wi : World) (l' : T) : Prop where
  rl : l'.Rep wi
  rr : R.Rep wi
  nd : (l'.blocks ++ R.blocks).Nodup
  old : ∀ k ∈ l'.blocks, k ∈ t.blocks ∨ w.heap.size ≤ k
  olr : ∀ k ∈ R.blocks, k ∈ t.blocks
  rw : Rw wi S n c
  tw : Tw t.blocks w wi
  ix : wi.heap[ib]? = some (.cells #[t.ptr, .int .u64 ver] 46)
theorem L3.gr {ib S n c : Nat} {ver : Int} {t R l' : T} {w wi w' : World} (h : L3 ib S n c ver t R w wi l') (hg : Gr wi.heap.size wi w') : L3 ib S n c ver t R w w' l' :=
  have k : ∀ g, g < wi.heap.size → w'.heap[g]? = wi.heap[g]? := fun g hg' => hg.1.block g hg'
  ⟨h.rl.keep fun b hb => k b (h.rl.lt b hb), h.rr.keep fun b hb => k b (h.rr.lt b hb), h.nd, h.old, h.olr, h.rw.keep (k S h.rw.lt), h.tw.new (Tw.of_gr hg) (by simp), (k ib (lt_of_cells h.ix)).trans h.ix⟩
theorem L3.join {ib S n c b : Nat} {ver : Int} {t R l' : T} {g : G} {w wi : World} (h : L3 ib S n c ver t R w wi l') (hr : Raw wi b g) (hb : ∀ k ∈ l'.blocks ++ R.blocks, k ≠ b) (hw : w.heap.size ≤ b) (hsz : l'.sz ≤ 5000) :
    Calls Try.prog 36 #[l'.ptr, .pointer (some ⟨b, 0, none⟩), .pointer none] wi fun e w' => ∃ t' : T, e = .returned t'.ptr ∧ t'.sz = l'.sz + 1 ∧ L3 ib S n c ver t R w w' t' ∧ Tw (l'.blocks ++ [b]) wi w' := by
  have hnd : (l'.blocks ++ b :: T.nil.blocks).Nodup := by
    rw [List.nodup_append]
    refine ⟨(List.nodup_append.1 h.nd).1, by simp [T.blocks, T.seq], fun k hk j hj => ?_⟩
    simp [T.blocks, T.seq] at hj
    subst hj
    exact hb k (by simp [hk])
  refine (join_any l' .nil b g wi h.rl trivial hr hnd (by simp [T.sz]; omega)).mono ?_
  rintro e w' ⟨t', rfl, h1, h2, h3⟩
  have hs : t'.sz = l'.sz + 1 := by have := sz_of h1; simpa [T.sz] using this
  have hbl : t'.blocks = l'.blocks ++ [b] := by rw [blocks_of h1]; simp [T.blocks, T.seq]
  have h3' : Tw (l'.blocks ++ [b]) wi w' := by simpa [T.blocks, T.seq] using h3
  have nS : ∀ k cs e, wi.heap[k]? = some (.cells cs e) → e ≠ 54 → k ∉ l'.blocks ++ [b] := fun k cs e u1 u2 hk => by
    rcases List.mem_append.1 hk with hk | hk
    · obtain ⟨cs', h4⟩ := h.rl.ty k hk
      rw [u1] at h4; simp at h4; exact u2 h4.2
    · simp at hk
      rw [hk] at u1
      obtain ⟨_, _, _, _, _, _, _, _, e9⟩ := hr
      rw [u1] at e9; simp at e9; exact u2 e9.2
  refine ⟨t', rfl, hs, ⟨h2, h.rr.tw h3' fun k hk e => ?_, ?_, ?_, h.olr, ?_, ?_, ?_⟩, h3'⟩
  · rcases List.mem_append.1 e with e | e
    · exact (List.nodup_append.1 h.nd).2.2 k e k hk rfl
    · simp at e
      exact hb k (by simp [hk]) e
  · rw [hbl, List.append_assoc, List.nodup_append]
    have h5 := h.nd
    rw [List.nodup_append] at h5
    refine ⟨h5.1, ?_, ?_⟩
    · simp only [List.cons_append, List.nil_append, List.nodup_cons]
      exact ⟨fun e => hb b (by simp [e]) rfl, h5.2.1⟩
    · intro k hk j hj
      simp at hj
      rcases hj with rfl | hj
      · exact hb k (by simp [hk])
      · exact h5.2.2 k hk j hj
  · intro k hk
    rw [hbl] at hk
    rcases List.mem_append.1 hk with hk | hk
    · exact h.old k hk
    · simp at hk; exact .inr (by omega)
  · obtain ⟨cur, e1, e2⟩ := h.rw
    exact ⟨cur, (h3'.2.1 S (lt_of_cells e1) (nS S _ _ e1 (by decide))).trans e1, e2⟩
  · refine h.tw.new h3' fun k hk => ?_
    rcases List.mem_append.1 hk with hk | hk
    · exact h.old k hk
    · simp at hk; exact .inr (by omega)
  · exact (h3'.2.1 ib (lt_of_cells h.ix) (nS ib _ _ h.ix (by decide))).trans h.ix
theorem L3.concat {ib S n c : Nat} {ver : Int} {t R l' : T} {w wi : World} (h : L3 ib S n c ver t R w wi l') (hib : ib < w.heap.size) (hit : ib ∉ t.blocks) (hsz : l'.sz + R.sz ≤ 2048) :
    Calls Try.prog 37 #[l'.ptr, R.ptr] wi fun e w' => ∃ t' : T, e = .returned t'.ptr ∧ w'.heap[ib]? = some (.cells #[t.ptr, .int .u64 ver] 46) ∧ ∀ v1 : Int, (0 ≤ v1 ∧ v1 ≤ 18446744073709551615) → 
      Ix ((w'.setCell ⟨ib, 0, none⟩ t'.ptr).setCell ⟨ib, 1, none⟩ (.int .u64 v1)) ib t' v1 ∧ Tw (ib :: t.blocks) w ((w'.setCell ⟨ib, 0, none⟩ t'.ptr).setCell ⟨ib, 1, none⟩ (.int .u64 v1)) ∧ ∀ k ∈ t'.blocks, k ∈ t.blocks ∨ w.heap.size ≤ k := by
  refine (concat_any l' R wi h.rl h.rr h.nd (by omega)).mono ?_
  rintro e w' ⟨t', rfl, h1, h2, h3⟩
  have hbl : t'.blocks = l'.blocks ++ R.blocks := by rw [blocks_of h1]; simp [T.blocks]
  have hold : ∀ k ∈ l'.blocks ++ R.blocks, k ∈ t.blocks ∨ w.heap.size ≤ k := fun k hk => by
    rcases List.mem_append.1 hk with hk | hk
    · exact h.old k hk
    · exact .inl (h.olr k hk)
  have hin : ib ∉ l'.blocks ++ R.blocks := fun e => by
    rcases hold ib e with e | e
    · exact hit e
    · omega
  have hc : w'.heap[ib]? = some (.cells #[t.ptr, .int .u64 ver] 46) := (h3.2.1 ib (lt_of_cells h.ix) hin).trans h.ix
  refine ⟨t', rfl, hc, fun v1 hv => ⟨⟨?_, ?_, by rw [hbl]; exact h.nd, by rw [hbl]; exact hin, ?_, hv⟩, ?_, by rw [hbl]; exact hold⟩⟩
  · have := blk_set (blk_set hc 0 t'.ptr) 1 (.int .u64 v1)
    simpa using this
  · refine h2.keep fun b hb => ?_
    have : b ≠ ib := fun e => hin (by rw [← hbl, ← e]; exact hb)
    rw [blk_far this, blk_far this]
  · have : t'.sz = l'.sz + R.sz := by rw [← T.sz_seq, h1, List.length_append, T.sz_seq, T.sz_seq]
    omega
  · exact ((((h.tw.mono (S' := ib :: t.blocks) (by intro k hk; simp [hk])).new h3 (fun k hk => by rcases hold k hk with e | e; exact .inl (by simp [e]); exact .inr e))).set (by simp) _ _).set (by simp) _ _
theorem L3.start {ib S n c l h : Nat} {ver : Int} {t A R0 A2 R : T} {w w5 w6 w7 : World} (hx : Ix w5 ib t ver) (hg : Gr w.heap.size w w5) (hr : Rw w5 S n c) (hlh : l ≤ h) (hht : h ≤ t.sz)
    (e1 : A.seq = t.seq.take ((l : Int)).toNat) (e2 : R0.seq = t.seq.drop ((l : Int)).toNat) (e3 : A.Rep w6) (e5 : Tw t.blocks w5 w6)
    (f1 : A2.seq = R0.seq.take ((h : Int) - (l : Int)).toNat) (f2 : R.seq = R0.seq.drop ((h : Int) - (l : Int)).toNat) (f4 : R.Rep w7) (f5 : Tw R0.blocks w6 w7) :
    L3 ib S n c ver t R w w7 A ∧ A.sz = l ∧ R.sz = t.sz - h ∧ A.Rep w7 := by
  obtain ⟨p1, q1⟩ := parts e1 e2
  obtain ⟨p2, q2⟩ := parts f1 f2
  have hnd := hx.nd
  rw [p1, List.nodup_append] at hnd
  obtain ⟨hn1, hn2, hn3⟩ := hnd
  have hA7 : A.Rep w7 := e3.tw f5 fun k hk e => hn3 k hk k e rfl
  rw [p2, List.nodup_append] at hn2
  have s1 : A.sz = l := by rw [← T.sz_seq, e1, List.length_take, T.sz_seq]; simp; omega
  have s2 : R.sz = t.sz - h := by rw [← T.sz_seq, f2, e2, List.length_drop, List.length_drop, T.sz_seq]; simp; omega
  have hin : ∀ k ∈ R0.blocks, k ∈ t.blocks := fun k hk => by rw [p1]; simp [hk]
  have nt : ∀ (k : Nat) (cs : Array Value) (e : TypeId), w5.heap[k]? = some (.cells cs e) → e ≠ 54 → w7.heap[k]? = w5.heap[k]? := fun k cs e u1 u2 => by
    have hk : k ∉ t.blocks := fun hk => by
      obtain ⟨cs', h4⟩ := hx.rep.ty k hk
      rw [u1] at h4; simp at h4; exact u2 h4.2
    have h6 := e5.2.1 k (lt_of_cells u1) hk
    exact (f5.2.1 k (by have := lt_of_cells u1; have := e5.1; omega) fun e => hk (hin k e)).trans h6
  refine ⟨⟨hA7, f4, ?_, ?_, ?_, ?_, ?_, (nt ib _ _ hx.cell (by decide)).trans hx.cell⟩, s1, s2, hA7⟩
  · rw [List.nodup_append]
    exact ⟨hn1, hn2.2.1, fun k hk j hj => hn3 k hk j (by rw [p2]; simp [hj])⟩
  · intro k hk
    exact .inl (by rw [p1]; simp [hk])
  · intro k hk
    exact hin k (by rw [p2]; simp [hk])
  · obtain ⟨cur, u1, u2⟩ := hr
    exact ⟨cur, (nt S _ _ u1 (by decide)).trans u1, u2⟩
  · exact (((Tw.of_gr hg).mono (by simp)).trans e5).trans (f5.mono hin)
end Go.Proofs.Qxb6500688a
