import Derived.Test.Qxb6500688aNew
namespace Go.Proofs.Qxb6500688a
open Go.RowKit Go.BigFrame
set_option linter.unusedSimpArgs false
attribute [local go_sem] ext_cell_if ext_frozen_if alloc_cell_if alloc_frozen_if ext_size ext_ext
theorem Try.info41 : (Try.prog.info? 41).map (fun i => (i.zero, i.size, i.bytes)) = some (some (.agg #[.int .i64 0, .int .i64 0, .int .i64 0, .int .i64 0]), 4, 32) := by kernel_rfl
/-- The cells of the first k hunks. -/
def hs (s : List (Nat × G)) : Nat → List Value
  | 0 => []
  | k + 1 => hs s k ++ (match s[k]? with
    | some p => [.int .i64 (wrap64 (totA (s.take k) + p.2.ga)), .int .i64 p.2.la, .int .i64 (wrap64 (totB (s.take k) + p.2.gb)), .int .i64 p.2.lb]
    | none => [])
/-- The cursor of a walk over all hunks. -/
def At1 (C : Nat) (w : World) (ib : Nat) (ver : Int) (t : T) (k : Nat) : Prop :=
  (k < t.sz ∧ ∃ p, t.seq[k]? = some p ∧ Cu C w C ib ver (pathD true t k) k (wrap64 (totA (t.seq.take k) + p.2.ga)) p.2.la (wrap64 (totB (t.seq.take k) + p.2.gb)) p.2.lb) ∨ (k = t.sz ∧ ∃ i a b c e, Cu C w C ib ver [] i a b c e)
theorem cur0_any (ib : Nat) (t : T) (ver : Int) (w : World) (hx : Ix w ib t ver) : Calls Try.prog 7 #[.pointer (some ⟨ib, 0, none⟩), .int .i64 0] w fun e w' => e = .returned (.pointer (some ⟨w.heap.size, 0, none⟩)) ∧ Gr w.heap.size w w' ∧ At1 w.heap.size w' ib ver t 0 := by
  by_cases h : t.sz = 0
  · refine (cursor_out ib t ver 0 w hx (.inr (by omega))).mono ?_
    rintro e w' ⟨h1, h2, h3⟩
    exact ⟨h1, h2, .inr ⟨h.symm, _, _, _, _, _, h3⟩⟩
  · have h0 : 0 < t.seq.length := by rw [T.sz_seq]; omega
    refine (cursor_in ib t ver 0 t.seq[0] w hx (List.getElem?_eq_getElem h0)).mono ?_
    rintro e w' ⟨h1, h2, h3⟩
    rw [pathTo_eq] at h3
    exact ⟨h1, h2, .inl ⟨by omega, _, List.getElem?_eq_getElem h0, h3⟩⟩
theorem Cu.far {A cb ib : Nat} {w w' : World} {ver : Int} {path : List T} {i a b c e : Int} (h : Cu A w cb ib ver path i a b c e) (hk : ∀ (g : Nat) (cs : Array Value) (ty : TypeId), ty ≠ 41 → w.heap[g]? = some (.cells cs ty) → w'.heap[g]? = some (.cells cs ty)) : Cu A w' cb ib ver path i a b c e := by
  obtain ⟨pa, pc, h1, h2⟩ := h
  refine ⟨pa, pc, hk _ _ _ (by decide) h1, own_move h2 fun g hg => ?_⟩
  rcases h2.2 with ⟨e1, _⟩ | ⟨g1, cap, cur, e1, _, h3, _⟩
  · rw [e1] at hg; simp [Value.ownBlock] at hg
  · rw [e1] at hg
    simp [Value.ownBlock] at hg
    subst hg
    rw [h3]; exact hk _ _ _ (by decide) h3
set_option maxRecDepth 100000 in
set_option maxHeartbeats 1000000 in
theorem appendAll_any (ib : Nat) (t : T) (ver : Int) (w : World) (hx : Ix w ib t ver) :
    Calls Try.prog 6 #[.pointer (some ⟨ib, 0, none⟩), .slice none 0 0] w fun en w' => ∃ a c, en = .returned (.slice a t.sz c) ∧ Gr w.heap.size w w' ∧ w'.ownsRow w.heap.size 41 4 (.slice a t.sz c) t.sz (hs t.seq t.sz) := by
  have HX := hidden hx
  have hsz := hx.sz
  have C0 := hidden (cur0_any ib t ver w hx)
  obtain ⟨C, hC⟩ : ∃ C, w.heap.size = C := ⟨_, rfl⟩
  rw [hC] at C0 ⊢
  obtain ⟨i4, hi4, ha4, hb4, hc4⟩ := info_parts Try.info41
  clear hx
  go_enter Try.func6, Try.ntmps6
  go_wp2_with (go_at_call 7; (with_reducible refine C0.out.mono ?_); rintro _ w1 ⟨rfl, hg1, hat1⟩; have HG1 := hidden hg1; have HA1 := hidden hat1; clear hg1 hat1)
  go_loopw [1] (fun s1 wi => ∃ (k : Nat) (a : Option Addr) (c : Nat), s1 = .slice a k c ∧ k ≤ t.sz ∧ Gr C w wi ∧ wi.ownsRow C 41 4 (.slice a k c) k (hs t.seq k) ∧ At1 C wi ib ver t k) (fun s1 _ => t.sz - lenOf s1)
  case atStart => exact ⟨0, none, 0, rfl, by omega, HG1.out, World.ownsRow_nil _ _ _ _, HA1.out⟩
  case round =>
    clear HG1 HA1
    clear w1
    obtain ⟨k, a, c, rfl, hk, hg, ho, hat⟩ := hrel
    have hx1 := HX.out.gr (by rw [hC]; exact hg)
    have HG := hidden hg
    have HO := hidden ho
    have hCw : C ≤ wr.heap.size := hg.2
    rcases hat with ⟨hlt, p, hp, hcu⟩ | ⟨hend, i', a', b', c', e', hcu⟩
    · have VA := hidden (valid_any C C ib t ver ver _ _ _ _ _ _ wr hcu hx1.cell)
      have HU := hidden (fun x => hunk_any C C ib ver _ _ _ _ _ _ (ext wr x) (show Cu C (ext wr x) C ib ver _ _ _ _ _ _ from by obtain ⟨pa, pc, g1, g2⟩ := hcu; exact ⟨pa, pc, blk_ext g1, own_ext g2 x⟩))
      have hpn : pathD true t k ≠ [] := by obtain ⟨s0, hs0⟩ := pathD_cons true (sz_nil (t := t) (by omega)) k; rw [hs0]; simp
      have HCU := hidden hcu
      have HP := hidden hp
      clear hg ho hcu hp hx1
      obtain ⟨XA, hXA⟩ : ∃ Q, wrap64 (totA (t.seq.take k) + p.2.ga) = Q := ⟨_, rfl⟩
      obtain ⟨XB, hXB⟩ : ∃ Q, wrap64 (totB (t.seq.take k) + p.2.gb) = Q := ⟨_, rfl⟩
      rw [hXA, hXB] at HU
      have eXA := hidden hXA
      have eXB := hidden hXB
      clear hXA hXB
      go_wp2_with (first
        | (go_at_call 9; (with_reducible refine VA.out.mono ?_); rintro _ _ ⟨hV, x1, rfl⟩; obtain rfl := hV.2 hpn rfl; clear hV)
        | (go_at_call 12; (with_reducible refine (HU.out _).mono ?_); rintro _ _ ⟨rfl, x2, rfl⟩)
        | (at_builtin; refine wpList_append_at rfl (.tmp 12) (.tmp 15) 27 rfl C 41 i4 (.agg #[.int .i64 0, .int .i64 0, .int .i64 0, .int .i64 0]) 4 32 Try.underlying27 hi4 ha4 hb4 hc4 rfl (by decide) (.slice a k c) k (hs t.seq k) (by simp [Act.eval]) ((own_ext HO.out _).alloc _) ⟨wr.heap.size + ((cat x1 x2) 0).1.size, 0, none⟩ 1 1 [.int .i64 XA, .int .i64 p.2.la, .int .i64 XB, .int .i64 p.2.lb] (by simp [Act.eval]) rfl (by intro j u hj; rw [show (⟨wr.heap.size + ((cat x1 x2) 0).1.size, 0, none⟩ : Addr).add j = ⟨wr.heap.size + ((cat x1 x2) 0).1.size, j, none⟩ by (simp [Addr.add] <;> omega)]; rw [new_cell _ _ _ _ (by simp [ext_size])]; simpa using hj) (by intro u hu; simp at hu; rcases hu with rfl | rfl | rfl | rfl <;> rfl) (by unfold maxLen; omega) (by omega) (by simp [ext_size]; omega) ?_))
      intro v' w3 hown3 hgrow3 _
      obtain ⟨qa, qn, qc, rfl⟩ := own_slice hown3
      obtain rfl : qn = k + 1 := own_len hown3
      have hkp : ∀ (g : Nat) (cs : Array Value) (ty : TypeId), ty ≠ 41 → wr.heap[g]? = some (.cells cs ty) → w3.heap[g]? = some (.cells cs ty) := fun g cs ty h1 h2 => by
        rw [hgrow3.block g (by have := lt_of_cells h2; simp [ext_size]; omega) (own_not HO.out h2 (fun e => h1 e.symm))]
        exact blk_alloc (blk_ext h2)
      have hg3 : Gr C w w3 := ((HG.out.ext _).alloc _).grown hgrow3 (fun q hq => ownBlock_ge HO.out q hq)
      have hx3 := HX.out.gr (by rw [hC]; exact hg3)
      have hCb : C ∉ t.blocks := fun e => by have := HX.out.rep.lt C e; omega
      have NX := hidden (next_any C C ib ver t k p w3 HP.out (HCU.out.far hkp) hx3.cell hx3.rep hx3.nd hsz hCb (Nat.le_refl C))
      have HG3 := hidden hg3
      have HO3 := hidden hown3
      have hCv : Hid (∃ cs, w3.heap[C]? = some (.cells cs 49)) := by obtain ⟨pa, pc, g1, _⟩ := HCU.out.far hkp; exact ⟨_, g1⟩
      clear hown3 hgrow3 hkp hg3 hx3 HCU
      have hfin : ∀ w4, Kp C C w3 w4 → At1 C w4 ib ver t (k + 1) → ∃ (k' : Nat) (a : Option Addr) (c : Nat), Value.slice qa (k + 1) qc = .slice a k' c ∧ k' ≤ t.sz ∧ Gr C w w4 ∧ w4.ownsRow C 41 4 (.slice a k' c) k' (hs t.seq k') ∧ At1 C w4 ib ver t k' := fun w4 h1 h2 => by
        refine ⟨k + 1, qa, qc, rfl, by omega, h1.2 w HG3.out, ?_, h2⟩
        have h3 := HO3.out
        have h4 : hs t.seq (k + 1) = hs t.seq k ++ [.int .i64 XA, .int .i64 p.2.la, .int .i64 XB, .int .i64 p.2.lb] := by simp only [hs, HP.out, eXA.out, eXB.out]
        rw [h4]
        refine own_move h3 fun g hg => ?_
        rcases h3.2 with ⟨e1, _⟩ | ⟨g1, cap, cur, e1, hC1, h5, _⟩
        · rw [e1] at hg; simp [Value.ownBlock] at hg
        · rw [e1] at hg
          simp [Value.ownBlock] at hg
          subst hg
          rw [h5]
          exact h1.1 _ _ _ (fun e => by obtain ⟨cs, hv3⟩ := hCv.out; rw [← e, h5] at hv3; simp at hv3) (by decide) h5
      have HF := hidden hfin
      clear hfin
      by_cases hl2 : k + 1 < t.sz
      · go_wp2_with (go_at_call 10; (with_reducible refine NX.out.mono ?_); rintro _ w4 ⟨hkp4, hor⟩; obtain ⟨_, rfl, hcu4⟩ := hor.resolve_right (by omega); have HK4 := hidden hkp4; have HC4 := hidden hcu4; clear hkp4 hor hcu4)
        refine ⟨HF.out w4 HK4.out (.inl ⟨hl2, ?_⟩), by simp [lenOf]; omega⟩
        obtain ⟨p', h1, h2⟩ := HC4.out
        exact ⟨p', h1, h2⟩
      · go_wp2_with (go_at_call 10; (with_reducible refine NX.out.mono ?_); rintro _ w4 ⟨hkp4, hor⟩; obtain ⟨_, rfl, hcu4⟩ := hor.resolve_left (by omega); have HK4 := hidden hkp4; have HC4 := hidden hcu4; clear hkp4 hor hcu4)
        have e2 : k + 1 = t.sz := by omega
        have h9 := HF.out w4 HK4.out (.inr ⟨e2, HC4.out⟩)
        rw [e2] at h9
        exact ⟨h9, by simp [lenOf]; omega⟩
    · have VA := hidden (valid_any C C ib t ver ver _ _ _ _ _ _ wr hcu hx1.cell)
      clear hg ho hcu hx1
      subst hend
      go_wp2_with (go_at_call 9; (with_reducible refine VA.out.mono ?_); rintro _ _ ⟨hV, x1, rfl⟩; obtain rfl := hV.1 (.inl rfl); clear hV)
      go_ret
      exact ⟨a, c, rfl, HG.out.ext x1, own_ext HO.out x1⟩
end Go.Proofs.Qxb6500688a
