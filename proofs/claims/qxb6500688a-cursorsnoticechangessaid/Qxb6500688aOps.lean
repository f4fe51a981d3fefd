import Derived.Test.Qxb6500688aSplice
import Derived.Test.Qxb6500688aFind
import Derived.Test.Qxb6500688aFloat
namespace Go.Proofs.Qxb6500688a
open Go.RowKit Go.BigFrame
set_option linter.unusedSimpArgs false
attribute [local go_sem] ext_cell_if ext_frozen_if alloc_cell_if alloc_frozen_if ext_size ext_ext calmOp calmAt
theorem Sp.of_gr {ib : Nat} {t : T} {ver n : Int} {w w0 w' : World} (h : Sp ib t ver w0 n w') (hg : Gr w.heap.size w w0) : Sp ib t ver w n w' := by
  rcases h with ⟨h1, t', h2, h3, h4⟩ | ⟨h1, x, rfl⟩
  · exact .inl ⟨h1, t', h2, ((Tw.of_gr hg).mono (by simp)).trans h3, fun k hk => by rcases h4 k hk with h | h; exact .inl h; exact .inr (by have := hg.2; omega)⟩
  · exact .inr ⟨h1, (hg.ext x).of⟩
theorem shift_any (ib : Nat) (t : T) (ver lo dA dB : Int) (w : World) (hx : Ix w ib t ver) :
    Calls Try.prog 18 #[.pointer (some ⟨ib, 0, none⟩), .int .i64 lo, .int .i64 dA, .int .i64 dB] w (SpliceOK ib t ver w) := by
  have SP := hidden (splice_any ib t ver lo lo dA dB (.slice none 0 0) 0 w hx ⟨none, 0, rfl, fun h => by omega⟩ (by omega))
  clear hx
  go_enter Try.func18, Try.ntmps18
  go_wp2_with (go_at_call 17; (with_reducible refine SP.out.mono ?_); rintro _ w' ⟨n, rfl, hn, hsp⟩; have HS := hidden hsp; clear hsp)
  go_ret
  exact ⟨n, rfl, hn, HS.out⟩
theorem findA_any (ib : Nat) (t : T) (ver line : Int) (w : World) (hx : Ix w ib t ver) :
    Calls Try.prog 20 #[.pointer (some ⟨ib, 0, none⟩), .int .i64 line] w fun e w' => RetPC e ∧ ∃ x, w' = ext w x := by
  have FI := hidden (fun o => find_any ib t ver 0 line (w.alloc o) (hx.gr ((Gr.refl w).alloc o)) (.inl rfl))
  obtain ⟨C, hC⟩ : ∃ C, w.heap.size = C := ⟨_, rfl⟩
  clear hx
  go_enter Try.func20, Try.ntmps20
  go_wp2_with (go_at_call 38; (with_reducible refine (FI.out _).mono ?_); rintro _ _ ⟨⟨i, A, B, b, c, rfl⟩, x1, rfl⟩)
  have h0 : Pl C w (w.alloc (.cells #[.int .i64 0, .bool false, .int .i64 0, .int .i64 0] 35)) := ⟨by rw [← hC]; exact (Gr.refl w).alloc _, 0, 0, 0, false, by rw [← hC]; exact heap_new _ _⟩
  refine post_gen (fun W => Gr C w W ∧ W.heap[C]? = some (.cells #[.int .i64 i, .bool b, .int .i64 A, .int .i64 B] 35)) ⟨((h0.ext x1).set i A B b).1, ?_⟩ ?_
  · obtain ⟨_, i0, A0, B0, b0, h9⟩ := h0.ext x1
    have := blk_set (blk_set (blk_set (blk_set h9 0 (.int .i64 i)) 1 (.bool b)) 2 (.int .i64 A)) 3 (.int .i64 B)
    simpa using this
  rintro Wf ⟨hGf, hF⟩
  have f0 := cell_of_cells hF 0
  have f1 := cell_of_cells hF 1
  have f2 := cell_of_cells hF 2
  have f3 := cell_of_cells hF 3
  simp at f0 f1 f2 f3
  exact bodyPost_ret (v := .tuple #[.agg #[.int .i64 i, .bool b, .int .i64 A, .int .i64 B], .int .u8 c]) (by simp [results, Try.results20, go_sem, f0, f1, f2, f3]) rfl ⟨⟨_, _, _, _, _, rfl⟩, by rw [← hC] at hGf; exact hGf.of⟩
theorem findB_any (ib : Nat) (t : T) (ver line : Int) (w : World) (hx : Ix w ib t ver) :
    Calls Try.prog 21 #[.pointer (some ⟨ib, 0, none⟩), .int .i64 line] w fun e w' => RetPC e ∧ ∃ x, w' = ext w x := by
  have FI := hidden (fun o => find_any ib t ver 1 line (w.alloc o) (hx.gr ((Gr.refl w).alloc o)) (.inr rfl))
  obtain ⟨C, hC⟩ : ∃ C, w.heap.size = C := ⟨_, rfl⟩
  clear hx
  go_enter Try.func21, Try.ntmps21
  go_wp2_with (go_at_call 38; (with_reducible refine (FI.out _).mono ?_); rintro _ _ ⟨⟨i, A, B, b, c, rfl⟩, x1, rfl⟩)
  have h0 : Pl C w (w.alloc (.cells #[.int .i64 0, .bool false, .int .i64 0, .int .i64 0] 35)) := ⟨by rw [← hC]; exact (Gr.refl w).alloc _, 0, 0, 0, false, by rw [← hC]; exact heap_new _ _⟩
  refine post_gen (fun W => Gr C w W ∧ W.heap[C]? = some (.cells #[.int .i64 i, .bool b, .int .i64 A, .int .i64 B] 35)) ⟨((h0.ext x1).set i A B b).1, ?_⟩ ?_
  · obtain ⟨_, i0, A0, B0, b0, h9⟩ := h0.ext x1
    have := blk_set (blk_set (blk_set (blk_set h9 0 (.int .i64 i)) 1 (.bool b)) 2 (.int .i64 A)) 3 (.int .i64 B)
    simpa using this
  rintro Wf ⟨hGf, hF⟩
  have f0 := cell_of_cells hF 0
  have f1 := cell_of_cells hF 1
  have f2 := cell_of_cells hF 2
  have f3 := cell_of_cells hF 3
  simp at f0 f1 f2 f3
  exact bodyPost_ret (v := .tuple #[.agg #[.int .i64 i, .bool b, .int .i64 A, .int .i64 B], .int .u8 c]) (by simp [results, Try.results21, go_sem, f0, f1, f2, f3]) rfl ⟨⟨_, _, _, _, _, rfl⟩, by rw [← hC] at hGf; exact hGf.of⟩
set_option maxRecDepth 100000 in
set_option maxHeartbeats 1000000 in
theorem mergeIx_any (ib : Nat) (t : T) (ver i : Int) (w : World) (hx : Ix w ib t ver) :
    Calls Try.prog 19 #[.pointer (some ⟨ib, 0, none⟩), .int .i64 i] w (SpliceOK ib t ver w) := by
  have HX := hidden hx
  have LN := hidden (len_any ib t ver w hx)
  have hsz := hx.sz
  clear hx
  go_enter Try.func19, Try.ntmps19
  by_cases h1 : i < 0
  · go_wp2_with (fail)
    go_ret
    exact .no 1 (by decide) (by decide) (Gr.refl _)
  by_cases h2 : (t.sz : Int) - 1 ≤ i
  · go_wp2_with (go_at_call 13; (with_reducible refine LN.out.mono ?_); rintro _ w ⟨rfl, rfl⟩)
    go_ret
    exact .no 1 (by decide) (by decide) (Gr.refl _)
  obtain ⟨k, rfl⟩ : ∃ k : Nat, i = k := ⟨i.toNat, by omega⟩
  have hk0 : k < t.seq.length := by rw [T.sz_seq]; omega
  have hk1 : k + 1 < t.seq.length := by rw [T.sz_seq]; omega
  have A0 := hidden (at_any ib t ver k t.seq[k] w HX.out (List.getElem?_eq_getElem hk0))
  have A1 : Hid (∀ x, Calls Try.prog 14 #[.pointer (some ⟨ib, 0, none⟩), .int .i64 ((k : Int) + 1)] (ext w x) fun e w' => e = .returned (hunkOf t.seq (k + 1) t.seq[k + 1].2) ∧ ∃ y, w' = ext (ext w x) y) := fun x => by
    have h := at_any ib t ver (k + 1) t.seq[k + 1] (ext w x) (HX.out.gr ((Gr.refl w).ext x)) (List.getElem?_eq_getElem hk1)
    rwa [show (((k + 1 : Nat)) : Int) = (k : Int) + 1 by omega] at h
  generalize t.seq[k] = p at *
  generalize t.seq[k + 1] = p' at *
  simp only [hunkOf] at A0 A1
  have bA := hidden (wrap64_bd (totA (t.seq.take k) + p.2.ga))
  have bB := hidden (wrap64_bd (totB (t.seq.take k) + p.2.gb))
  generalize wrap64 (totA (t.seq.take k) + p.2.ga) = XA at *
  generalize wrap64 (totB (t.seq.take k) + p.2.gb) = XB at *
  generalize wrap64 (totA (t.seq.take (k + 1)) + p'.2.ga) = YA at *
  generalize wrap64 (totB (t.seq.take (k + 1)) + p'.2.gb) = YB at *
  generalize p.2.la = LA at *
  generalize p.2.lb = LB at *
  generalize p'.2.la = MA at *
  generalize p'.2.lb = MB at *
  obtain ⟨C, hC⟩ : ∃ C, w.heap.size = C := ⟨_, rfl⟩
  go_upto_region 4 with (first
    | (go_at_call 13; (with_reducible refine LN.out.mono ?_); rintro _ w ⟨rfl, rfl⟩)
    | (go_at_call 14; (with_reducible refine A0.out.mono ?_); rintro _ _ ⟨rfl, x1, rfl⟩)
    | (go_at_call 14; (with_reducible refine (A1.out _).mono ?_); rintro _ _ ⟨rfl, x2, rfl⟩))
  obtain ⟨D, hD⟩ : ∃ D, C + (cat x1 x2 0).1.size = D := ⟨_, rfl⟩
  rw [hD]
  refine wp_gen (fun W => Gr C w W ∧ W.heap[D]? = some (.cells #[.int .i64 XA, .int .i64 LA, .int .i64 XB, .int .i64 LB] 41) ∧ W.heap[D + 1]? = some (.cells #[.int .i64 YA, .int .i64 MA, .int .i64 YB, .int .i64 MB] 41)) ⟨by rw [← hC]; exact (((Gr.refl w).ext _).alloc _).alloc _, blk_alloc (by
    have := heap_new (ext w (cat x1 x2)) (.cells #[.int .i64 XA, .int .i64 LA, .int .i64 XB, .int .i64 LB] 41)
    rw [ext_size, hC, hD] at this
    exact this), by
    have := heap_new ((ext w (cat x1 x2)).alloc (.cells #[.int .i64 XA, .int .i64 LA, .int .i64 XB, .int .i64 LB] 41)) (.cells #[.int .i64 YA, .int .i64 MA, .int .i64 YB, .int .i64 MB] 41)
    simpa [ext_size, hC, hD] using this⟩ ?_
  have hCD : C ≤ D := by omega
  clear hD A0 A1 LN
  clear x1 x2
  rintro w1 ⟨hg1, hv1, hv2⟩
  have HG1 := hidden hg1
  have k0 := cell_of_cells hv1 0
  have k2 := cell_of_cells hv1 2
  have j0 := cell_of_cells hv2 0
  have j1 := cell_of_cells hv2 1
  have j2 := cell_of_cells hv2 2
  have j3 := cell_of_cells hv2 3
  have hDw := lt_of_cells hv1
  have hEw := lt_of_cells hv2
  simp at k0 k2 j0 j1 j2 j3
  have AE := hidden (aEnd_any YA MA YB MB)
  have BE := hidden (bEnd_any YA MA YB MB)
  generalize wrap64 (YA + MA) = ZA at *
  generalize wrap64 (YB + MB) = ZB at *
  clear hg1 hv1 hv2
  refine wp_region_float 15 16 [⟨15, 7, .cells #[.int .i64 0, .int .i64 0, .int .i64 0, .int .i64 0] 41⟩] (by kernel_rfl) (by kernel_rfl) (by kernel_rfl) (by simp [go_sem]) ?_
  simp only [List.take_succ_cons, List.take_zero, List.drop_succ_cons, List.drop_zero]
  repeat (refine wpCalm_step (fun K hK => ?_); go_simp; first | (refine hK _ ?_; clear hK K) | (apply Exists.intro; refine ⟨fun _ => ?_, hK _ ?_⟩; (first | (go_at_call 27; exact Calls_ext3 (AE.out _)) | (go_at_call 28; exact Calls_ext3 (BE.out _))); clear hK K))
  refine wpCalm_nil ?_
  intro bb W hM
  obtain ⟨m1, m2, m3⟩ := hM.one
  simp only [actOf_cons, actOf_nil, if_true] at m1 m2 ⊢
  generalize bb 15 = b8 at *
  clear hM
  have hlt8 := lt_of_cells m2
  have z0 := cell_of_cells m2 0
  have z1 := cell_of_cells m2 1
  have z2 := cell_of_cells m2 2
  have z3 := cell_of_cells m2 3
  have y0 := mark_of_cells m2
  simp at z0 z1 z2 z3
  have HM2 := hidden m2
  have HGW := hidden (HG1.out.step m3 HG1.out.2)
  have bZA := hidden (i64_bd (ZA - XA))
  have bZB := hidden (i64_bd (ZB - XB))
  generalize IntKind.i64.wrap (ZA - XA) = QA at *
  generalize IntKind.i64.wrap (ZB - XB) = QB at *
  clear m2 m3 k0 k2 j0 j1 j2 j3 hDw hEw AE BE
  simp only [Act.put]
  have hb8 : C ≤ b8 := Nat.le_trans HG1.out.2 m1
  go_upto_region 5 with (fail)
  refine wp_gen (fun W2 => Gr C w W2 ∧ W2.heap[b8]? = some (.cells #[.int .i64 XA, .int .i64 QA, .int .i64 XB, .int .i64 QB] 41)) ⟨(((HGW.out.setCell hb8 _).setCell hb8 _).setCell hb8 _).setCell hb8 _, by
    have := blk_set (blk_set (blk_set (blk_set HM2.out 0 (.int .i64 XA)) 1 (.int .i64 QA)) 2 (.int .i64 XB)) 3 (.int .i64 QB)
    simpa using this⟩ ?_
  clear HGW HM2 z0 z1 z2 z3 y0 hlt8 m1 HG1
  clear W
  rintro w5 ⟨hg5, hv5⟩
  have n0 := cell_of_cells hv5 0
  have n1 := cell_of_cells hv5 1
  have n2 := cell_of_cells hv5 2
  have n3 := cell_of_cells hv5 3
  simp at n0 n1 n2 n3
  have hg6 : Gr w.heap.size w (w5.alloc (.cells #[.int .i64 XA, .int .i64 QA, .int .i64 XB, .int .i64 QB] 41)) := by rw [hC]; exact hg5.alloc _
  have HG6 := hidden hg6
  have SP := hidden (splice_any ib t ver k ((k : Int) + 2) 0 0 _ 1 (w5.alloc (.cells #[.int .i64 XA, .int .i64 QA, .int .i64 XB, .int .i64 QB] 41)) (HX.out.gr hg6) (hk_new w5 _ rfl bA.out bZA.out bB.out bZB.out) (by omega))
  clear hg5 hg6 hv5 hC
  go_wp2_with (go_at_call 17; (with_reducible refine SP.out.mono ?_); rintro _ w' ⟨n, rfl, hn, hsp⟩; have HS := hidden hsp; clear hsp)
  go_ret
  exact ⟨n, rfl, hn, HS.out.of_gr HG6.out⟩
end Go.Proofs.Qxb6500688a
