import Derived.Test.Qxb6500688aTouch
namespace Go.Proofs.Qxb6500688a
open Go.RowKit Go.BigFrame
set_option linter.unusedSimpArgs false
attribute [local go_sem] ext_cell_if ext_frozen_if alloc_cell_if alloc_frozen_if ext_size ext_ext
/-- The cells that a step of the cursor reads. -/
theorem cu_open {A cb ib : Nat} {ver : Int} {t : T} {d : Bool} {k : Nat} {i a b c e : Int} {w : World} (hc : Cu A w cb ib ver (pathD d t k) i a b c e) (hk : k < t.sz) (hs : t.sz ≤ 2048) (ht : t.Rep w) :
    ∃ (R n pc b0 : Nat) (l r : T) (g : G), n ≤ 2048 ∧ (pathD d t k).length = n + 1 ∧ (pathD d t k).getLast? = some (T.node b0 l g r) ∧ (T.node b0 l g r).Rep w ∧ w.cell? ⟨R, n, none⟩ = some (.pointer (some ⟨b0, 0, none⟩)) ∧ R < w.heap.size ∧
      w.heap[cb]? = some (.cells #[.pointer (some ⟨ib, 0, none⟩), .int .u64 ver, .slice (some ⟨R, 0, none⟩) (n + 1) pc, .int .i64 i, .int .i64 a, .int .i64 b, .int .i64 c, .int .i64 e] 49) ∧ w.ownsRow A 43 1 (.slice (some ⟨R, 0, none⟩) (n + 1) pc) (n + 1) ((pathD d t k).map T.ptr) := by
  obtain ⟨s0, hs0⟩ := pathD_cons d (sz_nil (t := t) (by omega)) k
  obtain ⟨pa, pc, hv, ho⟩ := hc
  obtain ⟨n, hn⟩ : ∃ n, (pathD d t k).length = n + 1 := ⟨s0.length, by rw [hs0]; simp⟩
  obtain ⟨u, hu⟩ : ∃ u, (pathD d t k)[n]? = some u := ⟨(pathD d t k)[n]'(by omega), List.getElem?_eq_getElem _⟩
  obtain ⟨hu0, hur⟩ := path_mem d t k u (List.mem_of_getElem? hu)
  have hlen := pathD_len d t k
  rw [hn] at hv ho
  obtain ⟨R, rfl⟩ : ∃ R, pa = some ⟨R, 0, none⟩ := by
    rcases ho.2 with ⟨h1, _⟩ | ⟨g, cap, cur, h1, _⟩
    · simp at h1
    · simp at h1; exact ⟨g, h1.1⟩
  cases u with
  | nil => exact absurd rfl hu0
  | node b0 l g r =>
    refine ⟨R, n, pc, b0, l, r, g, by omega, hn, ?_, hur w ht, ?_, (ho.lt R rfl).2, hv, ho⟩
    · rw [List.getLast?_eq_getElem?, hn]; simpa using hu
    · rw [ho.cellAt n (by omega)]; simp [hu, T.ptr]
/-- What Prev answers. -/
def PrevOK (A cb ib : Nat) (ver : Int) (t : T) (k : Nat) (w : World) (en : Ending) (w' : World) : Prop :=
  Kp A cb w w' ∧ ((k + 1 < t.sz ∧ en = .returned (.bool true) ∧ ∃ i a b c e, Cu A w' cb ib ver (pathD false t (k + 1)) i a b c e) ∨ (k + 1 = t.sz ∧ en = .returned (.bool false) ∧ ∃ i a b c e, Cu A w' cb ib ver [] i a b c e))
set_option maxRecDepth 100000 in
set_option maxHeartbeats 1000000 in
theorem prev_any (A cb ib : Nat) (ver : Int) (t : T) (k : Nat) (i a b c e : Int) (w : World) (hk : k < t.sz) (hc : Cu A w cb ib ver (pathD false t k) i a b c e)
    (hx : w.heap[ib]? = some (.cells #[t.ptr, .int .u64 ver] 46)) (ht : t.Rep w) (hn : t.blocks.Nodup) (hs : t.sz ≤ 2048) (hcb : cb ∉ t.blocks) (hA : A ≤ cb) :
    Calls Try.prog 11 #[.pointer (some ⟨cb, 0, none⟩)] w (PrevOK A cb ib ver t k w) := by
  obtain ⟨s0, hs0⟩ := pathD_cons false (sz_nil (t := t) (by omega)) k
  have VA := hidden (valid_any A cb ib t ver ver _ _ _ _ _ _ w hc hx)
  have ST : Hid (∀ z, Calls Try.prog 24 #[.pointer (some ⟨cb, 0, none⟩), .func (.func 29) #[] #[], .func (.func 30) #[] #[]] (ext w z) (StepOK false A cb ib ver t k i a b c e (ext w z))) := fun z => by
    obtain ⟨pa, pc, g1, g2⟩ := hc
    exact step_prev A cb ib ver t k _ _ _ _ _ (ext w z) ⟨pa, pc, blk_ext g1, own_ext g2 z⟩ (ht.tw (Tw.of_ext w z) (by simp)) hn hk hs hcb hA
  obtain ⟨R, n, pc, fb, fl, fr, fg, hn0, _, _, hfr, fcell, hRw, hv, _⟩ := cu_open hc hk hs ht
  have c2 := cell_of_cells hv 2
  have hcw := lt_of_cells hv
  have hbw := lt_of_cells hfr.1
  simp at c2
  have HFR := hidden hfr
  have HT := hidden ht
  have HCB := hidden hcb
  have hcf : Hid (fb ≠ cb) := fun e => by have h1 := hfr.1; rw [e, hv] at h1; simp at h1
  have hpn : pathD false t k ≠ [] := by rw [hs0]; simp
  clear hc hx ht hn hcb hs0 hv hfr
  go_enter Try.func11, Try.ntmps11
  go_upto_region 3 with (go_at_call 9; (with_reducible refine VA.out.mono ?_); rintro _ _ ⟨hV, x1, rfl⟩; obtain rfl := hV.2 hpn rfl; clear hV)
  refine wp_region_ext (by kernel_rfl) (by kernel_rfl) ?_
  repeat (go_big_quiet_step (fail))
  rintro w2 ⟨x2, rfl⟩
  rw [ext_ext]
  generalize cat x1 x2 = y
  by_cases hlt : k + 1 < t.sz
  · go_upto_region 6 with (go_at_call 24; (with_reducible refine (ST.out _).mono ?_); rintro _ w3 ⟨hkp, hst⟩; obtain ⟨_, rfl, hcu⟩ := hst.resolve_right (by omega); have HKP := hidden hkp; have HCU := hidden hcu; clear hkp hcu hst)
    have hkw : Kp A cb w w3 := ((Kp.refl A cb w).ext y).trans HKP.out
    obtain ⟨R', n', pc', b0, l0, r0, g0, hn1, hlen', _, hr0, cell0, hRw', hv', ho'⟩ := cu_open HCU.out hlt hs (hkw.rep HT.out HCB.out)
    have hf3 := hkw.1 fb _ 54 hcf.out (by decide) HFR.out.1
    obtain ⟨f4, f5, _, _⟩ := num_cells hf3
    obtain ⟨_, _, d6, d7⟩ := num_cells hr0.1
    have e2 := cell_of_cells hv' 2
    have e3 := cell_of_cells hv' 3
    have e4 := cell_of_cells hv' 4
    have e5 := cell_of_cells hv' 5
    have e6 := cell_of_cells hv' 6
    have e7 := cell_of_cells hv' 7
    have em := mark_of_cells hv'
    have hcw3 := lt_of_cells hv'
    have hfw3 := lt_of_cells hf3
    have hbw3 := lt_of_cells hr0.1
    simp at e2 e3 e4 e5 e6 e7
    have HKW := hidden hkw
    have HV := hidden hv'
    have HO := hidden ho'
    clear hkw hr0 hv' ho' hf3 VA ST HCU HKP HFR c2 fcell
    refine wp_region_ext (by kernel_rfl) (by kernel_rfl) ?_
    repeat (go_big_quiet_step (fail))
    rintro w4 ⟨x4, rfl⟩
    go_upto_region 7 with (fail)
    refine wp_region_ext (by kernel_rfl) (by kernel_rfl) ?_
    repeat (go_big_quiet_step (fail))
    rintro w5 ⟨x5, rfl⟩
    go_upto_region 8 with (fail)
    rw [ext_ext]
    generalize cat x4 x5 = z
    obtain ⟨EA, hEA⟩ : ∃ Q, wrap64 (a - fg.ga) = Q := ⟨_, rfl⟩
    obtain ⟨EB, hEB⟩ : ∃ Q, wrap64 (c - fg.gb) = Q := ⟨_, rfl⟩
    simp only [hEA, hEB]
    clear hEA hEB
    refine wp_region_ext_tail 22 (by kernel_rfl) (by kernel_rfl) (by kernel_rfl) ?_
    simp only [List.take_succ_cons, List.take_zero, List.drop_succ_cons, List.drop_zero]
    repeat (go_big_quiet_step (fail))
    refine wpQuiet_nil ?_
    rintro w6 ⟨x6, rfl⟩
    rw [ext_ext]
    generalize cat z x6 = q
    obtain ⟨YA, hYA⟩ : ∃ Q, wrap64 (EA - g0.la) = Q := ⟨_, rfl⟩
    obtain ⟨YB, hYB⟩ : ∃ Q, wrap64 (EB - g0.lb) = Q := ⟨_, rfl⟩
    simp only [hYA, hYB]
    have HV5 := hidden (blk_ext (x := q) HV.out)
    have HO5 := hidden (own_ext HO.out q)
    have HK5 := hidden (HKW.out.ext q)
    clear hYA hYB HV HO HKW
    obtain ⟨I, hI⟩ : ∃ Q, wrap64 (i - 1) = Q := ⟨_, rfl⟩
    go_wp2_with (fail)
    go_ret
    refine ⟨((((HK5.out.set hA _ _).set hA _ _).set hA _ _).set hA _ _).set hA _ _, .inl ⟨hlt, rfl, I, YA, g0.la, YB, g0.lb, some ⟨R', 0, none⟩, pc', ?_, ?_⟩⟩
    · rw [hlen']
      have := blk_set (blk_set (blk_set (blk_set (blk_set HV5.out 4 (.int .i64 YA)) 5 (.int .i64 g0.la)) 6 (.int .i64 YB)) 7 (.int .i64 g0.lb)) 3 (.int .i64 I)
      simpa using this
    · rw [hlen']
      have h1 := own_not HO5.out HV5.out (by decide)
      refine own_move HO5.out fun g hg => ?_
      have hne : g ≠ cb := fun e => h1 (by rw [hg, e])
      rw [blk_far hne, blk_far hne, blk_far hne, blk_far hne, blk_far hne]
  · go_wp2_with (go_at_call 24; (with_reducible refine (ST.out _).mono ?_); rintro _ w3 ⟨hkp, hst⟩; obtain ⟨_, rfl, hcu⟩ := hst.resolve_left (by omega); have HKP := hidden hkp; have HCU := hidden hcu; clear hkp hcu hst)
    go_ret
    exact ⟨((Kp.refl A cb w).ext y).trans HKP.out, .inr ⟨by omega, rfl, _, _, _, _, _, HCU.out⟩⟩
end Go.Proofs.Qxb6500688a
