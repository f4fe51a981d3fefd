import Derived.Test.Qxb6500688aPlayw
namespace Go.Proofs.Qxb6500688a
open Go.RowKit Go.BigFrame
set_option linter.unusedSimpArgs false
attribute [local go_sem] ext_cell_if ext_frozen_if alloc_cell_if alloc_frozen_if ext_size ext_ext
set_option maxRecDepth 100000 in
set_option maxHeartbeats 2000000 in
theorem play_any (ib : Nat) (t : T) (ver k lo hi da db ln : Int) (ha : Option Addr) (hm hc : Nat) (w : World) (hx : Ix w ib t ver) (hh : Hk w (.slice ha hm hc) hm) (hm16 : hm ≤ 65536) (hk0 : 0 ≤ k) (hhi : -9223372036854775808 ≤ hi ∧ hi ≤ 9223372036854775807) :
    Calls Try.prog 8 #[.pointer (some ⟨ib, 0, none⟩), .agg #[.int .u8 k, .int .i64 lo, .int .i64 hi, .slice ha hm hc, .int .i64 da, .int .i64 db, .int .i64 ln]] w (PlayOK ib t ver k w) := by
  by_cases k6 : k = 6
  · subst k6
    exact play_walk ib t ver lo hi da db ln ha hm hc w hx hhi
  have HX := hidden hx
  have HH := hidden hh
  clear hx hh
  obtain ⟨C, hC⟩ : ∃ C, w.heap.size = C := ⟨_, rfl⟩
  go_enter Try.func8, Try.ntmps8
  go_upto_region 2 with (fail)
  refine wp_gen (fun W => Gr C w W ∧ W.heap.size = C + 3 ∧ W.heap[C]? = some (.cells #[.int .u8 k, .int .i64 lo, .int .i64 hi, .slice ha hm hc, .int .i64 da, .int .i64 db, .int .i64 ln] 29) ∧ Rv (C + 1) W 0 0 0 0 false none 0 0) ⟨by rw [← hC]; exact (((Gr.refl w).alloc _).alloc _).alloc _, by simp; omega, ?_, ?_, ?_⟩ ?_
  · exact blk_alloc (blk_alloc (by rw [← hC]; exact heap_new _ _))
  · refine blk_alloc ?_
    have := heap_new (w.alloc (.cells #[.int .u8 k, .int .i64 lo, .int .i64 hi, .slice ha hm hc, .int .i64 da, .int .i64 db, .int .i64 ln] 29)) (.cells #[.int .u8 0, .int .i64 0, .bool false, .int .i64 0, .int .i64 0, .slice none 0 0] 37)
    simpa [hC] using this
  · have := heap_new ((w.alloc (.cells #[.int .u8 k, .int .i64 lo, .int .i64 hi, .slice ha hm hc, .int .i64 da, .int .i64 db, .int .i64 ln] 29)).alloc (.cells #[.int .u8 0, .int .i64 0, .bool false, .int .i64 0, .int .i64 0, .slice none 0 0] 37)) (.cells #[.int .u8 0, .int .i64 0, .bool false, .int .i64 0, .int .i64 0, .slice none 0 0] 37)
    simpa [hC] using this
  have HC := hidden hC
  have hs1 : w.heap.size ≤ C + 1 := by omega
  have hs2 : w.heap.size ≤ C + 2 := by omega
  have nT : Hid (∀ g, C ≤ g → g ≠ ib ∧ g ∉ t.blocks) := fun g hg => ⟨fun e => by have := lt_of_cells HX.out.cell; omega, fun e => by have := HX.out.rep.lt g e; omega⟩
  rintro w0 ⟨hg0, hz0, hv0, hr0⟩
  have HG0 := hidden (show Gr w.heap.size w w0 by rw [hC]; exact hg0)
  have HR0 := hidden hr0
  have HX0 := hidden (HX.out.gr (show Gr w.heap.size w w0 by rw [hC]; exact hg0))
  have HH0 := hidden (HH.out.gr (show Gr w.heap.size w w0 by rw [hC]; exact hg0))
  have c0 := cell_of_cells hv0 0
  have c1 := cell_of_cells hv0 1
  have c2 := cell_of_cells hv0 2
  have c3 := cell_of_cells hv0 3
  have c4 := cell_of_cells hv0 4
  have c5 := cell_of_cells hv0 5
  have c6 := cell_of_cells hv0 6
  have r0 := cell_of_cells hr0.2 0
  have r1 := cell_of_cells hr0.2 1
  have r2 := cell_of_cells hr0.2 2
  have r3 := cell_of_cells hr0.2 3
  have r4 := cell_of_cells hr0.2 4
  have r5 := cell_of_cells hr0.2 5
  have rm := mark_of_cells hr0.2
  simp at c0 c1 c2 c3 c4 c5 c6 r0 r1 r2 r3 r4 r5
  have hz3 : C + 2 < w0.heap.size := by omega
  clear hg0 hv0 hr0
  by_cases k0 : k = 0
  · subst k0
    have SP := hidden (splice_any ib t ver lo hi da db _ hm w0 HX0.out HH0.out hm16)
    go_upto_region 32 with (go_at_call 17; (with_reducible refine SP.out.mono ?_); rintro _ w1 ⟨n, rfl, hn, hsp⟩; have HS := hidden hsp; have hrv := HR0.out.keep (w' := w1) (fun g hg hh => hsp.keep hg (nT.out g (by omega)).1 (nT.out g (by omega)).2); have HV1 := hidden hrv; have q0 := cell_of_cells hrv.2 0; have qm := mark_of_cells hrv.2; have hz4 := lt_of_cells hrv.2; simp at q0; clear hsp hrv)
    refine wp_gen (fun W => Rv (C + 1) W n 0 0 0 false none 0 0 ∧ Pd ib t ver (C + 3) w 0 n W) ⟨HV1.out.code n, (Pd.of (by simp) HG0.out (by omega) HS.out).set HX.out hs2 (by omega) _ _⟩ ?_
    rintro w9 ⟨hr9, hp9⟩
    have HP := hidden hp9
    have HR := hidden hr9.1
    have e0 := cell_of_cells hr9.2 0
    have e1 := cell_of_cells hr9.2 1
    have e2 := cell_of_cells hr9.2 2
    have e3 := cell_of_cells hr9.2 3
    have e4 := cell_of_cells hr9.2 4
    have e5 := cell_of_cells hr9.2 5
    have d0 := cell_of_cells hr9.1 0
    have d1 := cell_of_cells hr9.1 1
    have d2 := cell_of_cells hr9.1 2
    have d3 := cell_of_cells hr9.1 3
    have d4 := cell_of_cells hr9.1 4
    have d5 := cell_of_cells hr9.1 5
    have dm := mark_of_cells hr9.1
    simp at e0 e1 e2 e3 e4 e5 d0 d1 d2 d3 d4 d5
    clear hr9 hp9
    go_wp2_with (fail)
    refine post_gen (fun W => Pd ib t ver (C + 3) w 0 n W ∧ W.heap[C + 1]? = some (.cells #[.int .u8 n, .int .i64 0, .bool false, .int .i64 0, .int .i64 0, .slice none 0 0] 37)) ⟨?_, ?_⟩ ?_
    · exact (((((HP.out.set HX.out hs1 (by omega) _ _).set HX.out hs1 (by omega) _ _).set HX.out hs1 (by omega) _ _).set HX.out hs1 (by omega) _ _).set HX.out hs1 (by omega) _ _).set HX.out hs1 (by omega) _ _
    · have := blk_set (blk_set (blk_set (blk_set (blk_set (blk_set HR.out 0 (.int .u8 n)) 1 (.int .i64 0)) 2 (.bool false)) 3 (.int .i64 0)) 4 (.int .i64 0)) 5 (.slice none 0 0)
      simpa using this
    rintro Wf ⟨hPf, hF⟩
    have f0 := cell_of_cells hF 0
    have f1 := cell_of_cells hF 1
    have f2 := cell_of_cells hF 2
    have f3 := cell_of_cells hF 3
    have f4 := cell_of_cells hF 4
    have f5 := cell_of_cells hF 5
    simp at f0 f1 f2 f3 f4 f5
    exact bodyPost_ret (v := .agg #[.int .u8 n, .int .i64 0, .bool false, .int .i64 0, .int .i64 0, .slice none 0 0]) (by simp [results, Try.results8, go_sem, f0, f1, f2, f3, f4, f5]) rfl ⟨_, _, _, _, _, _, _, _, rfl, by rw [HC.out]; exact hPf.mono (by omega)⟩
  by_cases k1 : k = 1
  · subst k1
    have SP := hidden (shift_any ib t ver lo da db w0 HX0.out)
    go_upto_region 32 with (go_at_call 18; (with_reducible refine SP.out.mono ?_); rintro _ w1 ⟨n, rfl, hn, hsp⟩; have HS := hidden hsp; have hrv := HR0.out.keep (w' := w1) (fun g hg hh => hsp.keep hg (nT.out g (by omega)).1 (nT.out g (by omega)).2); have HV1 := hidden hrv; have q0 := cell_of_cells hrv.2 0; have qm := mark_of_cells hrv.2; have hz4 := lt_of_cells hrv.2; simp at q0; clear hsp hrv)
    refine wp_gen (fun W => Rv (C + 1) W n 0 0 0 false none 0 0 ∧ Pd ib t ver (C + 3) w 1 n W) ⟨HV1.out.code n, (Pd.of (by simp) HG0.out (by omega) HS.out).set HX.out hs2 (by omega) _ _⟩ ?_
    rintro w9 ⟨hr9, hp9⟩
    have HP := hidden hp9
    have HR := hidden hr9.1
    have e0 := cell_of_cells hr9.2 0
    have e1 := cell_of_cells hr9.2 1
    have e2 := cell_of_cells hr9.2 2
    have e3 := cell_of_cells hr9.2 3
    have e4 := cell_of_cells hr9.2 4
    have e5 := cell_of_cells hr9.2 5
    have d0 := cell_of_cells hr9.1 0
    have d1 := cell_of_cells hr9.1 1
    have d2 := cell_of_cells hr9.1 2
    have d3 := cell_of_cells hr9.1 3
    have d4 := cell_of_cells hr9.1 4
    have d5 := cell_of_cells hr9.1 5
    have dm := mark_of_cells hr9.1
    simp at e0 e1 e2 e3 e4 e5 d0 d1 d2 d3 d4 d5
    clear hr9 hp9
    go_wp2_with (fail)
    refine post_gen (fun W => Pd ib t ver (C + 3) w 1 n W ∧ W.heap[C + 1]? = some (.cells #[.int .u8 n, .int .i64 0, .bool false, .int .i64 0, .int .i64 0, .slice none 0 0] 37)) ⟨?_, ?_⟩ ?_
    · exact (((((HP.out.set HX.out hs1 (by omega) _ _).set HX.out hs1 (by omega) _ _).set HX.out hs1 (by omega) _ _).set HX.out hs1 (by omega) _ _).set HX.out hs1 (by omega) _ _).set HX.out hs1 (by omega) _ _
    · have := blk_set (blk_set (blk_set (blk_set (blk_set (blk_set HR.out 0 (.int .u8 n)) 1 (.int .i64 0)) 2 (.bool false)) 3 (.int .i64 0)) 4 (.int .i64 0)) 5 (.slice none 0 0)
      simpa using this
    rintro Wf ⟨hPf, hF⟩
    have f0 := cell_of_cells hF 0
    have f1 := cell_of_cells hF 1
    have f2 := cell_of_cells hF 2
    have f3 := cell_of_cells hF 3
    have f4 := cell_of_cells hF 4
    have f5 := cell_of_cells hF 5
    simp at f0 f1 f2 f3 f4 f5
    exact bodyPost_ret (v := .agg #[.int .u8 n, .int .i64 0, .bool false, .int .i64 0, .int .i64 0, .slice none 0 0]) (by simp [results, Try.results8, go_sem, f0, f1, f2, f3, f4, f5]) rfl ⟨_, _, _, _, _, _, _, _, rfl, by rw [HC.out]; exact hPf.mono (by omega)⟩
  by_cases k2 : k = 2
  · subst k2
    have SP := hidden (mergeIx_any ib t ver lo w0 HX0.out)
    go_upto_region 32 with (go_at_call 19; (with_reducible refine SP.out.mono ?_); rintro _ w1 ⟨n, rfl, hn, hsp⟩; have HS := hidden hsp; have hrv := HR0.out.keep (w' := w1) (fun g hg hh => hsp.keep hg (nT.out g (by omega)).1 (nT.out g (by omega)).2); have HV1 := hidden hrv; have q0 := cell_of_cells hrv.2 0; have qm := mark_of_cells hrv.2; have hz4 := lt_of_cells hrv.2; simp at q0; clear hsp hrv)
    refine wp_gen (fun W => Rv (C + 1) W n 0 0 0 false none 0 0 ∧ Pd ib t ver (C + 3) w 2 n W) ⟨HV1.out.code n, (Pd.of (by simp) HG0.out (by omega) HS.out).set HX.out hs2 (by omega) _ _⟩ ?_
    rintro w9 ⟨hr9, hp9⟩
    have HP := hidden hp9
    have HR := hidden hr9.1
    have e0 := cell_of_cells hr9.2 0
    have e1 := cell_of_cells hr9.2 1
    have e2 := cell_of_cells hr9.2 2
    have e3 := cell_of_cells hr9.2 3
    have e4 := cell_of_cells hr9.2 4
    have e5 := cell_of_cells hr9.2 5
    have d0 := cell_of_cells hr9.1 0
    have d1 := cell_of_cells hr9.1 1
    have d2 := cell_of_cells hr9.1 2
    have d3 := cell_of_cells hr9.1 3
    have d4 := cell_of_cells hr9.1 4
    have d5 := cell_of_cells hr9.1 5
    have dm := mark_of_cells hr9.1
    simp at e0 e1 e2 e3 e4 e5 d0 d1 d2 d3 d4 d5
    clear hr9 hp9
    go_wp2_with (fail)
    refine post_gen (fun W => Pd ib t ver (C + 3) w 2 n W ∧ W.heap[C + 1]? = some (.cells #[.int .u8 n, .int .i64 0, .bool false, .int .i64 0, .int .i64 0, .slice none 0 0] 37)) ⟨?_, ?_⟩ ?_
    · exact (((((HP.out.set HX.out hs1 (by omega) _ _).set HX.out hs1 (by omega) _ _).set HX.out hs1 (by omega) _ _).set HX.out hs1 (by omega) _ _).set HX.out hs1 (by omega) _ _).set HX.out hs1 (by omega) _ _
    · have := blk_set (blk_set (blk_set (blk_set (blk_set (blk_set HR.out 0 (.int .u8 n)) 1 (.int .i64 0)) 2 (.bool false)) 3 (.int .i64 0)) 4 (.int .i64 0)) 5 (.slice none 0 0)
      simpa using this
    rintro Wf ⟨hPf, hF⟩
    have f0 := cell_of_cells hF 0
    have f1 := cell_of_cells hF 1
    have f2 := cell_of_cells hF 2
    have f3 := cell_of_cells hF 3
    have f4 := cell_of_cells hF 4
    have f5 := cell_of_cells hF 5
    simp at f0 f1 f2 f3 f4 f5
    exact bodyPost_ret (v := .agg #[.int .u8 n, .int .i64 0, .bool false, .int .i64 0, .int .i64 0, .slice none 0 0]) (by simp [results, Try.results8, go_sem, f0, f1, f2, f3, f4, f5]) rfl ⟨_, _, _, _, _, _, _, _, rfl, by rw [HC.out]; exact hPf.mono (by omega)⟩
  by_cases k3 : k = 3
  · subst k3
    have FI := hidden (findA_any ib t ver ln w0 HX0.out)
    go_upto_region 32 with (go_at_call 20; (with_reducible refine FI.out.mono ?_); rintro _ _ ⟨⟨i', A', B', b', cc, rfl⟩, x1, rfl⟩)
    refine wp_gen (fun W => Rv (C + 1) W cc i' A' B' b' none 0 0 ∧ Pd ib t ver (C + 3) w 3 cc W) ⟨((HR0.out.gr ((Gr.refl w0).ext x1)).place i' A' B' b').code cc, by refine .inr (.inr ⟨by decide, by decide, ?_⟩); exact ((((((HG0.out.ext x1).setCell hs2 _).setCell hs2 _).setCell hs2 _).setCell hs2 _).setCell hs2 _)⟩ ?_
    rintro w9 ⟨hr9, hp9⟩
    have HP := hidden hp9
    have HR := hidden hr9.1
    have e0 := cell_of_cells hr9.2 0
    have e1 := cell_of_cells hr9.2 1
    have e2 := cell_of_cells hr9.2 2
    have e3 := cell_of_cells hr9.2 3
    have e4 := cell_of_cells hr9.2 4
    have e5 := cell_of_cells hr9.2 5
    have d0 := cell_of_cells hr9.1 0
    have d1 := cell_of_cells hr9.1 1
    have d2 := cell_of_cells hr9.1 2
    have d3 := cell_of_cells hr9.1 3
    have d4 := cell_of_cells hr9.1 4
    have d5 := cell_of_cells hr9.1 5
    have dm := mark_of_cells hr9.1
    simp at e0 e1 e2 e3 e4 e5 d0 d1 d2 d3 d4 d5
    clear hr9 hp9
    go_wp2_with (fail)
    refine post_gen (fun W => Pd ib t ver (C + 3) w 3 cc W ∧ W.heap[C + 1]? = some (.cells #[.int .u8 cc, .int .i64 i', .bool b', .int .i64 A', .int .i64 B', .slice none 0 0] 37)) ⟨?_, ?_⟩ ?_
    · exact (((((HP.out.set HX.out hs1 (by omega) _ _).set HX.out hs1 (by omega) _ _).set HX.out hs1 (by omega) _ _).set HX.out hs1 (by omega) _ _).set HX.out hs1 (by omega) _ _).set HX.out hs1 (by omega) _ _
    · have := blk_set (blk_set (blk_set (blk_set (blk_set (blk_set HR.out 0 (.int .u8 cc)) 1 (.int .i64 i')) 2 (.bool b')) 3 (.int .i64 A')) 4 (.int .i64 B')) 5 (.slice none 0 0)
      simpa using this
    rintro Wf ⟨hPf, hF⟩
    have f0 := cell_of_cells hF 0
    have f1 := cell_of_cells hF 1
    have f2 := cell_of_cells hF 2
    have f3 := cell_of_cells hF 3
    have f4 := cell_of_cells hF 4
    have f5 := cell_of_cells hF 5
    simp at f0 f1 f2 f3 f4 f5
    exact bodyPost_ret (v := .agg #[.int .u8 cc, .int .i64 i', .bool b', .int .i64 A', .int .i64 B', .slice none 0 0]) (by simp [results, Try.results8, go_sem, f0, f1, f2, f3, f4, f5]) rfl ⟨_, _, _, _, _, _, _, _, rfl, by rw [HC.out]; exact hPf.mono (by omega)⟩
  by_cases k4 : k = 4
  · subst k4
    have FI := hidden (findB_any ib t ver ln w0 HX0.out)
    go_upto_region 32 with (go_at_call 21; (with_reducible refine FI.out.mono ?_); rintro _ _ ⟨⟨i', A', B', b', cc, rfl⟩, x1, rfl⟩)
    refine wp_gen (fun W => Rv (C + 1) W cc i' A' B' b' none 0 0 ∧ Pd ib t ver (C + 3) w 4 cc W) ⟨((HR0.out.gr ((Gr.refl w0).ext x1)).place i' A' B' b').code cc, by refine .inr (.inr ⟨by decide, by decide, ?_⟩); exact ((((((HG0.out.ext x1).setCell hs2 _).setCell hs2 _).setCell hs2 _).setCell hs2 _).setCell hs2 _)⟩ ?_
    rintro w9 ⟨hr9, hp9⟩
    have HP := hidden hp9
    have HR := hidden hr9.1
    have e0 := cell_of_cells hr9.2 0
    have e1 := cell_of_cells hr9.2 1
    have e2 := cell_of_cells hr9.2 2
    have e3 := cell_of_cells hr9.2 3
    have e4 := cell_of_cells hr9.2 4
    have e5 := cell_of_cells hr9.2 5
    have d0 := cell_of_cells hr9.1 0
    have d1 := cell_of_cells hr9.1 1
    have d2 := cell_of_cells hr9.1 2
    have d3 := cell_of_cells hr9.1 3
    have d4 := cell_of_cells hr9.1 4
    have d5 := cell_of_cells hr9.1 5
    have dm := mark_of_cells hr9.1
    simp at e0 e1 e2 e3 e4 e5 d0 d1 d2 d3 d4 d5
    clear hr9 hp9
    go_wp2_with (fail)
    refine post_gen (fun W => Pd ib t ver (C + 3) w 4 cc W ∧ W.heap[C + 1]? = some (.cells #[.int .u8 cc, .int .i64 i', .bool b', .int .i64 A', .int .i64 B', .slice none 0 0] 37)) ⟨?_, ?_⟩ ?_
    · exact (((((HP.out.set HX.out hs1 (by omega) _ _).set HX.out hs1 (by omega) _ _).set HX.out hs1 (by omega) _ _).set HX.out hs1 (by omega) _ _).set HX.out hs1 (by omega) _ _).set HX.out hs1 (by omega) _ _
    · have := blk_set (blk_set (blk_set (blk_set (blk_set (blk_set HR.out 0 (.int .u8 cc)) 1 (.int .i64 i')) 2 (.bool b')) 3 (.int .i64 A')) 4 (.int .i64 B')) 5 (.slice none 0 0)
      simpa using this
    rintro Wf ⟨hPf, hF⟩
    have f0 := cell_of_cells hF 0
    have f1 := cell_of_cells hF 1
    have f2 := cell_of_cells hF 2
    have f3 := cell_of_cells hF 3
    have f4 := cell_of_cells hF 4
    have f5 := cell_of_cells hF 5
    simp at f0 f1 f2 f3 f4 f5
    exact bodyPost_ret (v := .agg #[.int .u8 cc, .int .i64 i', .bool b', .int .i64 A', .int .i64 B', .slice none 0 0]) (by simp [results, Try.results8, go_sem, f0, f1, f2, f3, f4, f5]) rfl ⟨_, _, _, _, _, _, _, _, rfl, by rw [HC.out]; exact hPf.mono (by omega)⟩
  by_cases k5 : k = 5
  · subst k5
    have AT := hidden (fun o => atp_any ib t ver lo (w0.alloc o) (HX0.out.gr ((Gr.refl w0).alloc o)))
    go_upto_if 78 with (go_at_call 22; (with_reducible refine (AT.out _).mono ?_); rintro _ _ ⟨⟨a', b', c', d', kc, rfl⟩, x1, rfl⟩)
    refine wp_gen (fun W => Rv (C + 1) W kc 0 0 0 false none 0 0 ∧ Gr w.heap.size w W ∧ W.heap[C + 3]? = some (.cells #[.int .i64 a', .int .i64 b', .int .i64 c', .int .i64 d'] 41)) ⟨?_, ?_, ?_⟩ ?_
    · have h9 := HR0.out.gr (((Gr.refl w0).alloc (Obj.cells #[.int .i64 0, .int .i64 0, .int .i64 0, .int .i64 0] 41)).ext x1)
      exact Rv.code (R := C + 1) (w := World.setCell (World.setCell (World.setCell (World.setCell _ ⟨C + 3, 0, none⟩ (.int .i64 a')) ⟨C + 3, 1, none⟩ (.int .i64 b')) ⟨C + 3, 2, none⟩ (.int .i64 c')) ⟨C + 3, 3, none⟩ (.int .i64 d')) (h9.keep fun g hg hh => by rw [blk_far (by omega), blk_far (by omega), blk_far (by omega), blk_far (by omega)]) kc
    · exact (((((((HG0.out.alloc _).ext x1).setCell (by show _ ≤ C + 3; omega) _).setCell (by show _ ≤ C + 3; omega) _).setCell (by show _ ≤ C + 3; omega) _).setCell (by show _ ≤ C + 3; omega) _).setCell hs2 _)
    · rw [blk_far (by omega)]
      have h0 : (ext (w0.alloc (Obj.cells #[.int .i64 0, .int .i64 0, .int .i64 0, .int .i64 0] 41)) x1).heap[C + 3]? = some (.cells #[.int .i64 0, .int .i64 0, .int .i64 0, .int .i64 0] 41) := blk_ext (by rw [← hz0]; exact heap_new _ _)
      have := blk_set (blk_set (blk_set (blk_set h0 0 (.int .i64 a')) 1 (.int .i64 b')) 2 (.int .i64 c')) 3 (.int .i64 d')
      simpa using this
    clear c0 c1 c2 c3 c4 c5 c6 r0 r1 r2 r3 r4 r5 rm AT
    rintro w6 ⟨hr6, hg6, hv6⟩
    have HR6 := hidden hr6
    have HG6 := hidden hg6
    have r0 := cell_of_cells hr6.2 0
    have r5 := cell_of_cells hr6.2 5
    have rm := mark_of_cells hr6.2
    have hz6 := lt_of_cells hr6.2
    have v0 := cell_of_cells hv6 0
    have v1 := cell_of_cells hv6 1
    have v2 := cell_of_cells hv6 2
    have v3 := cell_of_cells hv6 3
    simp at r0 r5 v0 v1 v2 v3
    clear hr6 hg6 hv6
    by_cases hkc : kc = 0
    · subst hkc
      go_upto_region 32 with (fail)
      refine wp_gen (fun W => Rv (C + 1) W 0 0 0 0 false (some ⟨w6.heap.size, 0, none⟩) 1 1 ∧ Pd ib t ver (C + 3) w 5 0 W) ⟨(HR6.out.hunks _ _ _).gr ((Gr.refl _).alloc _), by refine .inr (.inr ⟨by decide, by decide, ?_⟩); exact (HG6.out.setCell hs2 _).alloc _⟩ ?_
      rintro w9 ⟨hr9, hp9⟩
      have HP := hidden hp9
      have HR := hidden hr9.1
      have e0 := cell_of_cells hr9.2 0
      have e1 := cell_of_cells hr9.2 1
      have e2 := cell_of_cells hr9.2 2
      have e3 := cell_of_cells hr9.2 3
      have e4 := cell_of_cells hr9.2 4
      have e5 := cell_of_cells hr9.2 5
      have d0 := cell_of_cells hr9.1 0
      have d1 := cell_of_cells hr9.1 1
      have d2 := cell_of_cells hr9.1 2
      have d3 := cell_of_cells hr9.1 3
      have d4 := cell_of_cells hr9.1 4
      have d5 := cell_of_cells hr9.1 5
      have dm := mark_of_cells hr9.1
      simp at e0 e1 e2 e3 e4 e5 d0 d1 d2 d3 d4 d5
      clear hr9 hp9
      go_wp2_with (fail)
      refine post_gen (fun W => Pd ib t ver (C + 3) w 5 0 W ∧ W.heap[C + 1]? = some (.cells #[.int .u8 0, .int .i64 0, .bool false, .int .i64 0, .int .i64 0, .slice (some ⟨w6.heap.size, 0, none⟩) 1 1] 37)) ⟨?_, ?_⟩ ?_
      · exact (((((HP.out.set HX.out hs1 (by omega) _ _).set HX.out hs1 (by omega) _ _).set HX.out hs1 (by omega) _ _).set HX.out hs1 (by omega) _ _).set HX.out hs1 (by omega) _ _).set HX.out hs1 (by omega) _ _
      · have := blk_set (blk_set (blk_set (blk_set (blk_set (blk_set HR.out 0 (.int .u8 0)) 1 (.int .i64 0)) 2 (.bool false)) 3 (.int .i64 0)) 4 (.int .i64 0)) 5 (.slice (some ⟨w6.heap.size, 0, none⟩) 1 1)
        simpa using this
      rintro Wf ⟨hPf, hF⟩
      have f0 := cell_of_cells hF 0
      have f1 := cell_of_cells hF 1
      have f2 := cell_of_cells hF 2
      have f3 := cell_of_cells hF 3
      have f4 := cell_of_cells hF 4
      have f5 := cell_of_cells hF 5
      simp at f0 f1 f2 f3 f4 f5
      exact bodyPost_ret (v := .agg #[.int .u8 0, .int .i64 0, .bool false, .int .i64 0, .int .i64 0, .slice (some ⟨w6.heap.size, 0, none⟩) 1 1]) (by simp [results, Try.results8, go_sem, f0, f1, f2, f3, f4, f5]) rfl ⟨_, _, _, _, _, _, _, _, rfl, by rw [HC.out]; exact hPf.mono (by omega)⟩
    · have hkb : (kc == 0) = false := by simp [hkc]
      go_upto_region 32 with (fail)
      refine wp_gen (fun W => Rv (C + 1) W kc 0 0 0 false none 0 0 ∧ Pd ib t ver (C + 3) w 5 kc W) ⟨HR6.out, .inr (.inr ⟨by decide, by decide, HG6.out⟩)⟩ ?_
      rintro w9 ⟨hr9, hp9⟩
      have HP := hidden hp9
      have HR := hidden hr9.1
      have e0 := cell_of_cells hr9.2 0
      have e1 := cell_of_cells hr9.2 1
      have e2 := cell_of_cells hr9.2 2
      have e3 := cell_of_cells hr9.2 3
      have e4 := cell_of_cells hr9.2 4
      have e5 := cell_of_cells hr9.2 5
      have d0 := cell_of_cells hr9.1 0
      have d1 := cell_of_cells hr9.1 1
      have d2 := cell_of_cells hr9.1 2
      have d3 := cell_of_cells hr9.1 3
      have d4 := cell_of_cells hr9.1 4
      have d5 := cell_of_cells hr9.1 5
      have dm := mark_of_cells hr9.1
      simp at e0 e1 e2 e3 e4 e5 d0 d1 d2 d3 d4 d5
      clear hr9 hp9
      go_wp2_with (fail)
      refine post_gen (fun W => Pd ib t ver (C + 3) w 5 kc W ∧ W.heap[C + 1]? = some (.cells #[.int .u8 kc, .int .i64 0, .bool false, .int .i64 0, .int .i64 0, .slice none 0 0] 37)) ⟨?_, ?_⟩ ?_
      · exact (((((HP.out.set HX.out hs1 (by omega) _ _).set HX.out hs1 (by omega) _ _).set HX.out hs1 (by omega) _ _).set HX.out hs1 (by omega) _ _).set HX.out hs1 (by omega) _ _).set HX.out hs1 (by omega) _ _
      · have := blk_set (blk_set (blk_set (blk_set (blk_set (blk_set HR.out 0 (.int .u8 kc)) 1 (.int .i64 0)) 2 (.bool false)) 3 (.int .i64 0)) 4 (.int .i64 0)) 5 (.slice none 0 0)
        simpa using this
      rintro Wf ⟨hPf, hF⟩
      have f0 := cell_of_cells hF 0
      have f1 := cell_of_cells hF 1
      have f2 := cell_of_cells hF 2
      have f3 := cell_of_cells hF 3
      have f4 := cell_of_cells hF 4
      have f5 := cell_of_cells hF 5
      simp at f0 f1 f2 f3 f4 f5
      exact bodyPost_ret (v := .agg #[.int .u8 kc, .int .i64 0, .bool false, .int .i64 0, .int .i64 0, .slice none 0 0]) (by simp [results, Try.results8, go_sem, f0, f1, f2, f3, f4, f5]) rfl ⟨_, _, _, _, _, _, _, _, rfl, by rw [HC.out]; exact hPf.mono (by omega)⟩
  by_cases k7 : k = 7
  · subst k7
    have RS := hidden (reset_any ib t ver w0 HX0.out)
    go_upto_region 32 with (go_at_call 23; (with_reducible refine RS.out.mono ?_); rintro _ w1 ⟨rfl, htw, hix⟩; have HT := hidden htw; have HI := hidden hix; clear htw hix)
    refine wp_gen (fun W => Rv (C + 1) W 0 0 0 0 false none 0 0 ∧ Pd ib t ver (C + 3) w 7 0 W) ⟨HR0.out.keep fun g hg hh => HT.out.2.1 g hg (by simp; exact (nT.out g (by omega)).1), .inr (.inl ⟨rfl, Ch.of HG0.out (by omega) HI.out (HT.out.mono (by simp)) (by simp [T.blocks, T.seq])⟩)⟩ ?_
    rintro w9 ⟨hr9, hp9⟩
    have HP := hidden hp9
    have HR := hidden hr9.1
    have e0 := cell_of_cells hr9.2 0
    have e1 := cell_of_cells hr9.2 1
    have e2 := cell_of_cells hr9.2 2
    have e3 := cell_of_cells hr9.2 3
    have e4 := cell_of_cells hr9.2 4
    have e5 := cell_of_cells hr9.2 5
    have d0 := cell_of_cells hr9.1 0
    have d1 := cell_of_cells hr9.1 1
    have d2 := cell_of_cells hr9.1 2
    have d3 := cell_of_cells hr9.1 3
    have d4 := cell_of_cells hr9.1 4
    have d5 := cell_of_cells hr9.1 5
    have dm := mark_of_cells hr9.1
    simp at e0 e1 e2 e3 e4 e5 d0 d1 d2 d3 d4 d5
    clear hr9 hp9
    go_wp2_with (fail)
    refine post_gen (fun W => Pd ib t ver (C + 3) w 7 0 W ∧ W.heap[C + 1]? = some (.cells #[.int .u8 0, .int .i64 0, .bool false, .int .i64 0, .int .i64 0, .slice none 0 0] 37)) ⟨?_, ?_⟩ ?_
    · exact (((((HP.out.set HX.out hs1 (by omega) _ _).set HX.out hs1 (by omega) _ _).set HX.out hs1 (by omega) _ _).set HX.out hs1 (by omega) _ _).set HX.out hs1 (by omega) _ _).set HX.out hs1 (by omega) _ _
    · have := blk_set (blk_set (blk_set (blk_set (blk_set (blk_set HR.out 0 (.int .u8 0)) 1 (.int .i64 0)) 2 (.bool false)) 3 (.int .i64 0)) 4 (.int .i64 0)) 5 (.slice none 0 0)
      simpa using this
    rintro Wf ⟨hPf, hF⟩
    have f0 := cell_of_cells hF 0
    have f1 := cell_of_cells hF 1
    have f2 := cell_of_cells hF 2
    have f3 := cell_of_cells hF 3
    have f4 := cell_of_cells hF 4
    have f5 := cell_of_cells hF 5
    simp at f0 f1 f2 f3 f4 f5
    exact bodyPost_ret (v := .agg #[.int .u8 0, .int .i64 0, .bool false, .int .i64 0, .int .i64 0, .slice none 0 0]) (by simp [results, Try.results8, go_sem, f0, f1, f2, f3, f4, f5]) rfl ⟨_, _, _, _, _, _, _, _, rfl, by rw [HC.out]; exact hPf.mono (by omega)⟩
  · have q0 : (k == 0) = false := by simp [k0]
    have q1 : (k == 1) = false := by simp [k1]
    have q2 : (k == 2) = false := by simp [k2]
    have q3 : (k == 3) = false := by simp [k3]
    have q4 : (k == 4) = false := by simp [k4]
    have q5 : (k == 5) = false := by simp [k5]
    have q6 : (k == 6) = false := by simp [k6]
    have q7 : (k == 7) = false := by simp [k7]
    go_upto_region 32 with (fail)
    refine wp_gen (fun W => Rv (C + 1) W 0 0 0 0 false none 0 0 ∧ Pd ib t ver (C + 3) w k 0 W) ⟨HR0.out, .inr (.inr ⟨by omega, by omega, HG0.out⟩)⟩ ?_
    rintro w9 ⟨hr9, hp9⟩
    have HP := hidden hp9
    have HR := hidden hr9.1
    have e0 := cell_of_cells hr9.2 0
    have e1 := cell_of_cells hr9.2 1
    have e2 := cell_of_cells hr9.2 2
    have e3 := cell_of_cells hr9.2 3
    have e4 := cell_of_cells hr9.2 4
    have e5 := cell_of_cells hr9.2 5
    have d0 := cell_of_cells hr9.1 0
    have d1 := cell_of_cells hr9.1 1
    have d2 := cell_of_cells hr9.1 2
    have d3 := cell_of_cells hr9.1 3
    have d4 := cell_of_cells hr9.1 4
    have d5 := cell_of_cells hr9.1 5
    have dm := mark_of_cells hr9.1
    simp at e0 e1 e2 e3 e4 e5 d0 d1 d2 d3 d4 d5
    clear hr9 hp9
    go_wp2_with (fail)
    refine post_gen (fun W => Pd ib t ver (C + 3) w k 0 W ∧ W.heap[C + 1]? = some (.cells #[.int .u8 0, .int .i64 0, .bool false, .int .i64 0, .int .i64 0, .slice none 0 0] 37)) ⟨?_, ?_⟩ ?_
    · exact (((((HP.out.set HX.out hs1 (by omega) _ _).set HX.out hs1 (by omega) _ _).set HX.out hs1 (by omega) _ _).set HX.out hs1 (by omega) _ _).set HX.out hs1 (by omega) _ _).set HX.out hs1 (by omega) _ _
    · have := blk_set (blk_set (blk_set (blk_set (blk_set (blk_set HR.out 0 (.int .u8 0)) 1 (.int .i64 0)) 2 (.bool false)) 3 (.int .i64 0)) 4 (.int .i64 0)) 5 (.slice none 0 0)
      simpa using this
    rintro Wf ⟨hPf, hF⟩
    have f0 := cell_of_cells hF 0
    have f1 := cell_of_cells hF 1
    have f2 := cell_of_cells hF 2
    have f3 := cell_of_cells hF 3
    have f4 := cell_of_cells hF 4
    have f5 := cell_of_cells hF 5
    simp at f0 f1 f2 f3 f4 f5
    exact bodyPost_ret (v := .agg #[.int .u8 0, .int .i64 0, .bool false, .int .i64 0, .int .i64 0, .slice none 0 0]) (by simp [results, Try.results8, go_sem, f0, f1, f2, f3, f4, f5]) rfl ⟨_, _, _, _, _, _, _, _, rfl, by rw [HC.out]; exact hPf.mono (by omega)⟩
end Go.Proofs.Qxb6500688a
