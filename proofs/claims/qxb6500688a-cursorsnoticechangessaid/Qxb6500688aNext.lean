import Derived.Test.Qxb6500688aLast
import Derived.Test.Qxb6500688aTail
namespace Go.Proofs.Qxb6500688a
open Go.RowKit Go.BigFrame
set_option linter.unusedSimpArgs false
attribute [local go_sem] ext_cell_if ext_frozen_if alloc_cell_if alloc_frozen_if ext_size ext_ext
theorem hunk_any (A cb ib : Nat) (ver : Int) (path : List T) (i a b c e : Int) (w : World) (hc : Cu A w cb ib ver path i a b c e) : Calls Try.prog 12 #[.pointer (some ⟨cb, 0, none⟩)] w fun en w' => en = .returned (.agg #[.int .i64 a, .int .i64 b, .int .i64 c, .int .i64 e]) ∧ ∃ x, w' = ext w x := by
  obtain ⟨pa, pc, hv, _⟩ := hc
  have c4 := cell_of_cells hv 4
  have c5 := cell_of_cells hv 5
  have c6 := cell_of_cells hv 6
  have c7 := cell_of_cells hv 7
  have hcw := lt_of_cells hv
  simp at c4 c5 c6 c7
  clear hv
  go_enter Try.func12, Try.ntmps12
  go_wp2
  refine bodyPost_ret (v := .agg #[.int .i64 a, .int .i64 b, .int .i64 c, .int .i64 e]) (by simp [results, Try.results12, go_sem, ↓IntWalk.iteOmega]) rfl ⟨rfl, Gr.of (by repeat (first | exact Gr.refl _ | refine Gr.alloc ?_ _ | refine Gr.setCell ?_ (by simp) _))⟩
/-- What Next answers. -/
def NextOK (A cb ib : Nat) (ver : Int) (t : T) (k : Nat) (w : World) (en : Ending) (w' : World) : Prop :=
  Kp A cb w w' ∧ ((k + 1 < t.sz ∧ en = .returned (.bool true) ∧ ∃ p, t.seq[k + 1]? = some p ∧ Cu A w' cb ib ver (pathD true t (k + 1)) ((k + 1 : Nat) : Int) (wrap64 (totA (t.seq.take (k + 1)) + p.2.ga)) p.2.la (wrap64 (totB (t.seq.take (k + 1)) + p.2.gb)) p.2.lb) ∨
    (k + 1 = t.sz ∧ en = .returned (.bool false) ∧ ∃ i a b c e, Cu A w' cb ib ver [] i a b c e))
set_option maxRecDepth 100000 in
set_option maxHeartbeats 1000000 in
theorem next_any (A cb ib : Nat) (ver : Int) (t : T) (k : Nat) (p : Nat × G) (w : World) (hp : t.seq[k]? = some p) (hc : Cu A w cb ib ver (pathD true t k) k (wrap64 (totA (t.seq.take k) + p.2.ga)) p.2.la (wrap64 (totB (t.seq.take k) + p.2.gb)) p.2.lb)
    (hx : w.heap[ib]? = some (.cells #[t.ptr, .int .u64 ver] 46)) (ht : t.Rep w) (hn : t.blocks.Nodup) (hs : t.sz ≤ 2048) (hcb : cb ∉ t.blocks) (hA : A ≤ cb) :
    Calls Try.prog 10 #[.pointer (some ⟨cb, 0, none⟩)] w (NextOK A cb ib ver t k w) := by
  have hk : k < t.sz := by rw [← T.sz_seq]; exact (List.getElem?_eq_some_iff.1 hp).1
  obtain ⟨s0, hs0⟩ := pathD_cons true (sz_nil (t := t) (by omega)) k
  have VA := hidden (valid_any A cb ib t ver ver _ _ _ _ _ _ w hc hx)
  have ST : Hid (∀ z, Calls Try.prog 24 #[.pointer (some ⟨cb, 0, none⟩), .func (.func 25) #[] #[], .func (.func 26) #[] #[]] (ext w z) (StepOK true A cb ib ver t k k (wrap64 (totA (t.seq.take k) + p.2.ga)) p.2.la (wrap64 (totB (t.seq.take k) + p.2.gb)) p.2.lb (ext w z))) := fun z => by
    obtain ⟨pa, pc, g1, g2⟩ := hc
    exact step_next A cb ib ver t k _ _ _ _ _ (ext w z) ⟨pa, pc, blk_ext g1, own_ext g2 z⟩ (ht.tw (Tw.of_ext w z) (by simp)) hn hk hs hcb hA
  have HP := hidden hp
  have HN := hidden hn
  have HT := hidden ht
  have HCB := hidden hcb
  have hpn : pathD true t k ≠ [] := by rw [hs0]; simp
  clear hp hc hx ht hn hcb hs0
  go_enter Try.func10, Try.ntmps10
  by_cases hlt : k + 1 < t.sz
  · go_upto_region 5 with (first
      | (go_at_call 9; (with_reducible refine VA.out.mono ?_); rintro _ _ ⟨hV, x1, rfl⟩; obtain rfl := hV.2 hpn rfl; clear hV)
      | (go_at_call 24; (with_reducible refine (ST.out _).mono ?_); rintro _ w2 ⟨hkp, hst⟩; obtain ⟨_, rfl, hcu⟩ := hst.resolve_right (by omega); have HKP := hidden hkp; have HCU := hidden hcu; clear hkp hcu hst))
    obtain ⟨b, l, g, r, hla, hsq⟩ := path_last t (k + 1) hlt
    have hkw : Kp A cb w w2 := ((Kp.refl A cb w).ext x1).trans HKP.out
    have HKW := hidden hkw
    have hrep : (T.node b l g r).Rep w2 := (path_mem true t (k + 1) _ (List.mem_of_getLast? hla)).2 _ (hkw.rep HT.out HCB.out)
    obtain ⟨L, hL⟩ : ∃ L, pathD true t (k + 1) = L := ⟨_, rfl⟩
    rw [hL] at hla
    obtain ⟨n, hn1⟩ : ∃ n, L.length = n + 1 := ⟨L.length - 1, by have : L ≠ [] := (by rintro rfl; simp at hla); have := List.length_pos_iff.2 this; omega⟩
    have hnb : n ≤ 2048 := by have := pathD_len true t (k + 1); rw [hL, hn1] at this; omega
    have hcu := HCU.out
    rw [hL] at hcu
    obtain ⟨pa, pc, hv, ho⟩ := hcu
    rw [hn1] at hv ho
    obtain ⟨R, rfl⟩ : ∃ R, pa = some ⟨R, 0, none⟩ := by
      rcases ho.2 with ⟨h1, _⟩ | ⟨g, cap, cur, h1, _⟩
      · simp at h1
      · simp at h1; exact ⟨g, h1.1⟩
    have hcell : w2.cell? ⟨R, n, none⟩ = some (.pointer (some ⟨b, 0, none⟩)) := by
      rw [ho.cellAt n (by omega)]
      rw [List.getLast?_eq_getElem?, hn1] at hla
      simp at hla
      simp [hla, T.ptr]
    have hRw := (ho.lt R rfl).2
    obtain ⟨XA, hXA⟩ : ∃ Q, wrap64 (totA (t.seq.take k) + p.2.ga) = Q := ⟨_, rfl⟩
    obtain ⟨XB, hXB⟩ : ∃ Q, wrap64 (totB (t.seq.take k) + p.2.gb) = Q := ⟨_, rfl⟩
    rw [hXA, hXB] at hv
    obtain ⟨d4, d5, d6, d7⟩ := num_cells hrep.1
    have hbw := lt_of_cells hrep.1
    have hcw := lt_of_cells hv
    have c2 := cell_of_cells hv 2
    have c3 := cell_of_cells hv 3
    have c4 := cell_of_cells hv 4
    have c5 := cell_of_cells hv 5
    have c6 := cell_of_cells hv 6
    have c7 := cell_of_cells hv 7
    have cm := mark_of_cells hv
    simp at c2 c3 c4 c5 c6 c7
    have HV := hidden hv
    have HO := hidden ho
    have eXA := hidden hXA
    have eXB := hidden hXB
    have HSQ := hidden hsq
    have HLL := hidden hL
    clear hkw hrep hla hv ho VA ST HCU hXA hXB hsq hL
    refine wp_region_ext (by kernel_rfl) (by kernel_rfl) ?_
    repeat (go_big_quiet_step (fail))
    rintro w3 ⟨x3, rfl⟩
    go_upto_region 6 with (fail)
    refine wp_region_ext_tail 30 (by kernel_rfl) (by kernel_rfl) (by kernel_rfl) ?_
    simp only [List.take_succ_cons, List.take_zero, List.drop_succ_cons, List.drop_zero]
    repeat (go_big_quiet_step ((first | (go_at_call 27; first | exact Calls_ext (aEnd_any _ _ _ _ _) | exact Calls_ext2 (aEnd_any _ _ _ _ _)) | (go_at_call 28; first | exact Calls_ext (bEnd_any _ _ _ _ _) | exact Calls_ext2 (bEnd_any _ _ _ _ _)))))
    refine wpQuiet_nil ?_
    rintro w4 ⟨x4, rfl⟩
    rw [ext_ext]
    generalize cat x3 x4 = y
    obtain ⟨YA, hYA⟩ : ∃ Q, wrap64 (wrap64 (XA + p.2.la) + g.ga) = Q := ⟨_, rfl⟩
    obtain ⟨YB, hYB⟩ : ∃ Q, wrap64 (wrap64 (XB + p.2.lb) + g.gb) = Q := ⟨_, rfl⟩
    have eYA := hidden hYA
    have eYB := hidden hYB
    simp only [hYA, hYB]
    have HV5 := hidden (blk_ext (x := y) HV.out)
    have HO5 := hidden (own_ext HO.out y)
    have HK5 := hidden (HKW.out.ext y)
    clear hYA hYB HV HO HKW
    go_wp2_with (fail)
    go_ret
    have hseqk := tot_step HP.out
    have hYA' : YA = wrap64 (totA (t.seq.take (k + 1)) + g.ga) := by rw [← eYA.out, ← eXA.out, wrap_next, hseqk.1]
    have hYB' : YB = wrap64 (totB (t.seq.take (k + 1)) + g.gb) := by rw [← eYB.out, ← eXB.out, wrap_next, hseqk.2]
    refine ⟨((((HK5.out.set hA _ _).set hA _ _).set hA _ _).set hA _ _).set hA _ _, .inl ⟨hlt, rfl, (b, g), HSQ.out, some ⟨R, 0, none⟩, pc, ?_, ?_⟩⟩
    · rw [HLL.out, hn1]
      have := blk_set (blk_set (blk_set (blk_set (blk_set HV5.out 4 (.int .i64 YA)) 5 (.int .i64 g.la)) 6 (.int .i64 YB)) 7 (.int .i64 g.lb)) 3 (.int .i64 ((k : Int) + 1))
      simpa [hYA', hYB'] using this
    · rw [HLL.out, hn1]
      have h1 := own_not HO5.out HV5.out (by decide)
      refine own_move HO5.out fun q hq => ?_
      have hne : q ≠ cb := fun e => h1 (by rw [hq, e])
      rw [blk_far hne, blk_far hne, blk_far hne, blk_far hne, blk_far hne]
  · go_wp2_with (first
      | (go_at_call 9; (with_reducible refine VA.out.mono ?_); rintro _ _ ⟨hV, x1, rfl⟩; obtain rfl := hV.2 hpn rfl; clear hV)
      | (go_at_call 24; (with_reducible refine (ST.out _).mono ?_); rintro _ w2 ⟨hkp, hst⟩; obtain ⟨_, rfl, hcu⟩ := hst.resolve_left (by omega); have HKP := hidden hkp; have HCU := hidden hcu; clear hkp hcu hst))
    go_ret
    exact ⟨((Kp.refl A cb w).ext x1).trans HKP.out, .inr ⟨by omega, rfl, _, _, _, _, _, HCU.out⟩⟩
end Go.Proofs.Qxb6500688a
