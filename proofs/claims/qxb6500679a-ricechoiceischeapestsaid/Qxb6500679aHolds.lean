import Derived.Test.Qxb6500679aCheap
namespace Go.Proofs.Qxb6500679a
open Go.RowKit Go.BigFrame
set_option linter.unusedSimpArgs false
attribute [local go_sem] ext_cell_if ext_frozen_if alloc_cell_if alloc_frozen_if ext_size ext_ext
attribute [local irreducible] bst ordCost ordPars cst plen pars btot costFrom
theorem Rd.ext {A B : Nat} {w : World} {k : IntKind} {v : Value} {l : List Nat} (h : Rd A B w k v l) (hB : B ≤ w.heap.size) (x : Nat → Array Obj × Nat) : Rd A B (Qxb6500679a.ext w x) k v l := h.below ((ext_below w x).mono hB)
theorem Rd.alloc {A B : Nat} {w : World} {k : IntKind} {v : Value} {l : List Nat} (h : Rd A B w k v l) (hB : B ≤ w.heap.size) (o : Obj) : Rd A B (w.alloc o) k v l := h.keep fun g _ h2 => Below.heap_alloc _ _ _ (by omega)
set_option maxRecDepth 100000 in
set_option maxHeartbeats 1000000 in
theorem cheapestHolds_any (v : Value) (l : List Nat) (w : World) (hl : Rd 0 w.heap.size w .u64 v l) (h64 : ∀ n ∈ l, n < 18446744073709551616) (hn : l.length ≤ 4999) :
    Calls Try.prog 7 #[v] w fun e w' => e = .returned (.bool true) ∧ ∃ x, w' = ext w x := by
  obtain ⟨a, c, rfl, hc, hrow⟩ := hl
  obtain ⟨b, hb1, hb2⟩ : ∃ b, (l ≠ [] → a = some ⟨b, 0, none⟩ ∧ b < w.heap.size) ∧ ∀ j (h : j < l.length), w.cell? ⟨b, 0 + j, none⟩ = some (.int .u64 (l[j] : Nat)) := by
    by_cases hp : l = []
    · exact ⟨0, fun h => absurd hp h, fun j h => by rw [hp] at h; simp at h⟩
    · obtain ⟨g, g1, _, g2, g3⟩ := hrow hp
      exact ⟨g, fun _ => ⟨g1, g2⟩, fun j h => by rw [Nat.zero_add]; exact g3 j h⟩
  clear hrow
  have hR : Row64 w b 0 l := ⟨h64, hb2⟩
  have HB := hidden (bestPartitioning_any a b 0 c l w hb1 hR hn hc)
  obtain ⟨⟨p, T⟩, hD⟩ : ∃ D, bst (ordCost l) 7 = D := ⟨_, rfl⟩
  have hp7 := (bst_val (ordCost l) 7).2
  have hT := (bst_val (ordCost l) 7).1
  have HC : ∀ W, Gr w.heap.size w W → Calls Try.prog 18 #[.slice a l.length c] W fun e w' => ∃ V, e = .returned (.tuple #[.int .i64 p, V, .int .i64 T]) ∧ Rd W.heap.size w'.heap.size w' .i64 V (ordPars l p) ∧ ∃ x, w' = ext W x := fun W hW => by
    have := cheapest_any a b 0 c l W (fun h => ⟨(hb1 h).1, by have := (hb1 h).2; have := hW.2; omega⟩) (by
      by_cases hl0 : l = []
      · subst hl0; exact ⟨fun v hv => by simp at hv, fun j hj => by simp at hj⟩
      · exact hR.below hW.1 (hb1 hl0).2) hn hc
    rw [hD] at this
    exact this
  rw [hD] at HB hp7 hT
  simp only at HB hp7 hT
  have hTle := ordCost_le l p
  have hcst := costFrom_ord l p
  rw [hT] at hTle hcst
  have HCO : ∀ W (qa : Option Addr) (qc : Nat), Gr w.heap.size w W → Rd 0 W.heap.size W .i64 (.slice qa (ordPars l p).length qc) (ordPars l p) → Calls Try.prog 19 #[.slice a l.length c, .int .i64 p, .slice qa (ordPars l p).length qc] W fun e w' => e = .returned (.int .i64 T) ∧ w' = W := fun W qa qc hW hrd => by
    obtain ⟨pa, pc, hpv, hpc, hprow⟩ := hrd
    obtain ⟨rfl, rfl⟩ : qa = pa ∧ qc = pc := by simpa using hpv
    obtain ⟨pb, hpb1, hpb2⟩ : ∃ pb, (ordPars l p ≠ [] → qa = some ⟨pb, 0, none⟩) ∧ ∀ j (h : j < (ordPars l p).length), W.cell? ⟨pb, 0 + j, none⟩ = some (.int .i64 ((ordPars l p)[j] : Nat)) := by
      by_cases hp : ordPars l p = []
      · exact ⟨0, fun h => absurd hp h, fun j h => by rw [hp] at h; simp at h⟩
      · obtain ⟨g, g1, _, _, g3⟩ := hprow hp
        exact ⟨g, fun _ => g1, fun j h => by rw [Nat.zero_add]; exact g3 j h⟩
    have := costOf_any a b 0 c l W (fun h => (hb1 h).1) (by
      by_cases hl0 : l = []
      · subst hl0; exact ⟨fun v hv => by simp at hv, fun j hj => by simp at hj⟩
      · exact hR.below hW.1 (hb1 hl0).2) (by omega) p (by omega) qa pb 0 qc (ordPars l p) hpb1 hpb2 (by unfold ordPars; exact pars_le _ _ _) (by unfold ordPars; exact fun j hj => pars_idx _ (plen_pos _ _) l j hj) (by unfold ordPars; have := pars_len (plen l.length p) (plen_pos _ _) l.length l l.length (Nat.le_refl _) (Nat.le_refl _); omega)
    rw [hcst] at this
    exact this
  have h40 : ∀ q ∈ ordPars l p, q ≤ 40 := by unfold ordPars; exact pars_le _ _ _
  have hpl : (ordPars l p).length ≤ 4999 := by unfold ordPars; have := pars_len (plen l.length p) (plen_pos _ _) l.length l l.length (Nat.le_refl _) (Nat.le_refl _); omega
  generalize ordPars l p = ps at *
  have H40 := hidden h40
  have HC' := hidden HC
  have HO := hidden HCO
  clear h40 HC HCO hcst hD hT hR hb1 hb2 h64
  go_enter Try.func7, Try.ntmps7
  go_wp2_with (first
    | (go_at_call 17; refine HB.out.mono ?_; rintro e w1 ⟨V, rfl, hV, x, rfl⟩; have HV := hidden hV; obtain ⟨va, vc, rfl, hvc, hvrow⟩ := hV; clear hvrow)
    | (go_at_call 18; refine (HC'.out _ (Gr.alloc (Gr.ext (Gr.refl w) x) _)).mono ?_; rintro e w2 ⟨U, rfl, hU, y, rfl⟩; have HU := hidden hU; obtain ⟨ua, uc, rfl, huc, hurow⟩ := hU; clear hurow))
  obtain ⟨N, hN⟩ : ∃ N, w.heap.size + (x 0).1.size = N := ⟨_, rfl⟩
  rw [hN]
  have hN1 : (ext w x).heap.size = N := by rw [ext_size]; exact hN
  refine wp_gen (fun W => W.heap[N]? = some (.cells #[.int .i64 p, .slice va ps.length vc, .int .i64 T] 53) ∧ Rd 0 W.heap.size W .u8 (.slice va ps.length vc) ps ∧ Rd 0 W.heap.size W .i64 (.slice ua ps.length uc) ps ∧ Gr w.heap.size w W) ⟨?_, ?_, ?_, ?_⟩ ?_
  · refine blk_ext ?_
    rw [← hN1]
    exact heap_new _ _
  · refine (((HV.out.alloc (Nat.le_refl _) _).ext ?_ y).mono (Nat.zero_le _) ?_)
    · simp
    · exact (((Gr.refl (ext w x)).alloc _).ext y).2
  · exact HU.out.mono (Nat.zero_le _) (Nat.le_refl _)
  · exact (((Gr.refl w).ext x).alloc _).ext y
  clear HV HU hN1 hN HC' HB
  clear x y
  rintro W ⟨hv, hrV, hrU, hgr⟩
  have d0 := cell_of_cells hv 0
  have d1 := cell_of_cells hv 1
  have d2 := cell_of_cells hv 2
  have hlt := lt_of_cells hv
  simp at d0 d1 d2
  have HRV := hidden hrV
  have HRU := hidden hrU
  clear hrV hrU
  go_loop [38] (fun i => ∃ j : Nat, j ≤ ps.length ∧ i = .int .i64 j) (fun i => ps.length - (intOf i).toNat)
  case atStart => exact ⟨0, by omega, rfl⟩
  case round =>
    obtain ⟨j, hj, rfl⟩ := hrel
    by_cases hjl : j < ps.length
    · have hne : ps ≠ [] := by intro e; rw [e] at hjl; simp at hjl
      obtain ⟨_, _, ev, _, hvr⟩ := HRV.out
      obtain ⟨rfl, rfl⟩ : va = _ ∧ vc = _ := by simpa using ev
      obtain ⟨gv, rfl, _, _, gv3⟩ := hvr hne
      obtain ⟨_, _, eu, _, hur⟩ := HRU.out
      obtain ⟨rfl, rfl⟩ : ua = _ ∧ uc = _ := by simpa using eu
      obtain ⟨gu, rfl, _, _, gu3⟩ := hur hne
      have c1 := gv3 j hjl
      have c2 := gu3 j hjl
      have c3 := H40.out ps[j] (List.getElem_mem hjl)
      generalize ps[j] = q at *
      clear hvr hur ev eu gv3 gu3
      go_wp2
      exact ⟨⟨j + 1, by omega, by go_num⟩, by simp [intOf]; omega⟩
    · obtain rfl : j = ps.length := by omega
      have hco : ∀ x, Calls Try.prog 19 #[.slice a l.length c, .int .i64 p, .slice ua ps.length uc] (ext W x) fun e w' => e = .returned (.int .i64 T) ∧ ∃ y, w' = ext (ext W x) y := fun x =>
        (HO.out (ext W x) ua uc (hgr.ext x) ((HRU.out.ext (Nat.le_refl _) x).mono (Nat.le_refl _) (by rw [ext_size]; omega))).mono (by
          rintro e w' ⟨rfl, rfl⟩
          exact ⟨rfl, (Gr.refl _).of⟩)
      have HCO := hidden hco
      clear hco
      go_wp2_with fail
      refine wp_region_ext (by kernel_rfl) (by kernel_rfl) ?_
      repeat (go_big_quiet_step ((first | (go_at_call 19; exact Calls_ext (HCO.out _)) | (go_at_call 19; exact Calls_ext2 (HCO.out _)))))
      refine wpQuiet_nil ?_
      rintro _ ⟨x, rfl⟩
      go_wp2
      go_ret
      exact ⟨by simp, (hgr.ext x).of⟩
end Go.Proofs.Qxb6500679a
