import Derived.Test.Qxb6500688aStep
namespace Go.Proofs.Qxb6500688a
open Go.RowKit Go.BigFrame
set_option linter.unusedSimpArgs false
attribute [local go_sem] ext_cell_if ext_frozen_if alloc_cell_if alloc_frozen_if ext_size ext_ext
set_option maxRecDepth 100000 in
set_option maxHeartbeats 1000000 in
theorem step_prev (A cb ib : Nat) (ver : Int) (t : T) (k : Nat) (i a b c e : Int) (w : World) (hc : Cu A w cb ib ver (pathD false t k) i a b c e) (ht : t.Rep w) (hn : t.blocks.Nodup) (hk : k < t.sz) (hs : t.sz ≤ 2048) (hcb : cb ∉ t.blocks) (hA : A ≤ cb) :
    Calls Try.prog 24 #[.pointer (some ⟨cb, 0, none⟩), .func (.func 29) #[] #[], .func (.func 30) #[] #[]] w (StepOK false A cb ib ver t k i a b c e w) := by
  have HC := hidden hc
  have HT := hidden ht
  have HN := hidden hn
  have HCB := hidden hcb
  obtain ⟨pa, pc, hv, ho⟩ := hc
  obtain ⟨L, hL⟩ : ∃ L, pathD false t k = L := ⟨_, rfl⟩
  rw [hL] at hv ho
  obtain ⟨s, hs1⟩ := pathD_cons false (sz_nil (t := t) (by omega)) k
  have hL0 : L ≠ [] := by rw [← hL, hs1]; simp
  obtain ⟨n, hn1⟩ : ∃ n, L.length = n + 1 := ⟨L.length - 1, by have := List.length_pos_iff.2 hL0; omega⟩
  have hnb : n ≤ 2048 := by have := pathD_len false t k; rw [hL, hn1] at this; omega
  obtain ⟨u, hu⟩ : ∃ u, L[n]? = some u := ⟨L[n]'(by omega), List.getElem?_eq_getElem _⟩
  have hulast : (pathD false t k).getLast? = some u := by rw [hL, List.getLast?_eq_getElem?, hn1]; simpa using hu
  obtain ⟨hu0, hur⟩ := path_mem false t k u (by rw [hL]; exact List.mem_of_getElem? hu)
  have hur := hur w ht
  rw [hn1] at hv ho
  obtain ⟨R, rfl⟩ : ∃ R, pa = some ⟨R, 0, none⟩ := by
    rcases ho.2 with ⟨h1, _⟩ | ⟨g, cap, cur, h1, _⟩
    · simp at h1
    · simp at h1; exact ⟨g, h1.1⟩
  have hcell : w.cell? ⟨R, n, none⟩ = some (.pointer (some ⟨u.blk, 0, none⟩)) := by
    rw [ho.cellAt n (by omega)]; simp [hu, T.ptr_of hu0]
  have hRw := (ho.lt R rfl).2
  have v2 := cell_of_cells hv 2
  have hcw := lt_of_cells hv
  simp at v2
  have HV := hidden hv
  have HO := hidden ho
  have K1 : Hid (∀ x, Calls Try.prog 29 #[.pointer (some ⟨u.blk, 0, none⟩)] (ext w x) fun e w' => e = .returned (u.kid false).ptr ∧ w' = ext w x) := fun x => (bk_prev u (ext w x) hu0 (hur.tw (Tw.of_ext w x) (by simp))).1
  obtain ⟨i0, hi0, ha, hb, hc⟩ := info_parts Try.info43
  clear ht hn hcb hv ho
  go_enter Try.func24, Try.ntmps24
  go_upto_region 1 with (fail)
  refine wp_region_ext (by kernel_rfl) (by kernel_rfl) ?_
  repeat (go_big_quiet_step (fail))
  rintro w1 ⟨x1, rfl⟩
  go_upto_region 3 with (go_at_call 29; (with_reducible refine (K1.out _).mono ?_); rintro _ _ ⟨rfl, rfl⟩)
  refine wp_gen (fun W => Kp A cb w W ∧ Cu A W cb ib ver L i a b c e) ⟨(Kp.refl A cb w).ext x1, some ⟨R, 0, none⟩, pc, by rw [hn1]; exact blk_ext HV.out, by rw [hn1]; exact own_ext HO.out x1⟩ ?_
  clear hcell hRw v2 hcw HV HO K1 HC
  clear x1
  rintro w1 ⟨hkp1, hcu1⟩
  have HK1 := hidden hkp1
  have HC1 := hidden hcu1
  clear hkp1 hcu1
  cases hK : u.kid false with
  | node kb kl kg kr =>
    obtain ⟨hd1, hd2⟩ := path_down false t k hk u hulast (by rw [hK]; simp)
    rw [hK, hL] at hd2
    have HD := hidden hd2
    have hrepK : Hid (∀ W, t.Rep W → (T.node kb kl kg kr).Rep W) := fun W hW => by
      rw [← hK]; exact (rep_bk false ((path_mem false t k u (by rw [hL]; exact List.mem_of_getElem? hu)).2 W hW)).2
    show Code.wp _ _ _ ⟨#[_, _, _, _, _, _, _, _, .pointer (some ⟨kb, 0, none⟩), _, _, _, _, _, _, _, _, _, _, _, _, _, _, _, .pointer (some ⟨kb, 0, none⟩), _, _, _, _, _, _, _, _, _, _, _, _, _, _, _, _, _, _, _, _, _, _, _, _, _, _, _, _, _, _, _, _, _, _, _, _, _, _, _, _, _, _, _, _, _, _, _, _, _, _, _, _, _, _, _, _, _, _, _, _, _, _, _, _, _, _, _, _, _, _, _, _, _], _⟩ _
    clear hd2 hulast hu hur hL hs1
    go_wp2_with (fail)
    go_loopw [8] (fun s8 wi => ∃ (v : T) (dn : List T), s8 = v.ptr ∧ (∀ W, t.Rep W → v.Rep W) ∧ pathD false t (k + 1) = dn ++ pathD false v 0 ∧ Kp A cb w wi ∧ Cu A wi cb ib ver dn i a b c e) (fun s8 _ => htOf w s8)
    case atStart => exact ⟨T.node kb kl kg kr, L, rfl, hrepK.out, HD.out, HK1.out, HC1.out⟩
    case round =>
      clear HK1 HC1
      clear w1
      obtain ⟨v, dn, rfl, hvr, hpt, hkp, hcu⟩ := hrel
      have HVR := hidden hvr
      have HPT := hidden hpt
      have HKP := hidden hkp
      cases v with
      | nil =>
        have HCU := hidden hcu
        clear hvr hpt hkp hcu
        show Code.wp _ _ _ ⟨#[_, _, _, _, _, _, _, _, .pointer none, _, _, _, _, _, _, _, _, _, _, _, _, _, _, _, _, _, _, _, _, _, _, _, _, _, _, _, _, _, _, _, _, _, _, _, _, _, _, _, _, _, _, _, _, _, _, _, _, _, _, _, _, _, _, _, _, _, _, _, _, _, _, _, _, _, _, _, _, _, _, _, _, _, _, _, _, _, _, _, _, _, _, _, _, _, _, _, _, _], _⟩ _
        go_wp2_with (fail)
        go_ret
        refine ⟨HKP.out, .inl ⟨hd1, rfl, ?_⟩⟩
        rw [HPT.out]
        simpa [pathD] using HCU.out
      | node vb vl vg vr =>
        obtain ⟨qa, qc, hv, ho⟩ := hcu
        have hdl : dn.length ≤ 2048 := by have := pathD_len false t (k + 1); rw [hpt] at this; simp at this; omega
        have v2 := cell_of_cells hv 2
        have hcw := lt_of_cells hv
        simp at v2
        have HV := hidden hv
        have HO := hidden ho
        have hAw : A ≤ wr.heap.size := by omega
        have hm0 : htOf w (T.node vb vl vg vr).ptr = (T.node vb vl vg vr).ht := htOf_rep (hvr w HT.out)
        have hm1 : htOf w ((T.node vb vl vg vr).bak false).ptr = ((T.node vb vl vg vr).bak false).ht := htOf_rep (rep_bk false (hvr w HT.out)).1
        clear hvr hpt hkp hv ho
        show Code.wp _ _ _ ⟨#[_, _, _, _, _, _, _, _, .pointer (some ⟨vb, 0, none⟩), _, _, _, _, _, _, _, _, _, _, _, _, _, _, _, _, _, _, _, _, _, _, _, _, _, _, _, _, _, _, _, _, _, _, _, _, _, _, _, _, _, _, _, _, _, _, _, _, _, _, _, _, _, _, _, _, _, _, _, _, _, _, _, _, _, _, _, _, _, _, _, _, _, _, _, _, _, _, _, _, _, _, _, _, _, _, _, _, _], _⟩ _
        go_wp2_with (at_builtin; refine wpList_append_at rfl (.tmp 36) (.tmp 38) 47 rfl A 43 i0 (.pointer none) 1 8 Try.underlying47 hi0 ha hb hc rfl (by decide) (.slice qa dn.length qc) dn.length (dn.map T.ptr) (by simp [Act.eval]) (HO.out.alloc _) ⟨wr.heap.size, 0, none⟩ 1 1 [.pointer (some ⟨vb, 0, none⟩)] (by simp [Act.eval]) rfl (by intro j u hj; rcases j with _ | j <;> simp at hj; subst hj; simp [Addr.add]) (by intro u hu; simp at hu; subst hu; rfl) (by unfold maxLen; omega) (by omega) (by simp; omega) ?_)
        intro v' w3 hown3 hgrow3 _
        obtain ⟨ra, rn, rc, rfl⟩ := own_slice hown3
        obtain rfl : rn = dn.length + 1 := own_len hown3
        have hnC : some cb ≠ (Value.slice qa dn.length qc).ownBlock := own_not HO.out HV.out (by decide)
        have hv3 : w3.heap[cb]? = _ := (hgrow3.block cb (by simp; omega) hnC).trans (blk_alloc HV.out)
        have y2 := cell_of_cells hv3 2
        have ym := mark_of_cells hv3 2
        simp at y2
        have hnC' : some cb ≠ (Value.slice ra (dn.length + 1) rc).ownBlock := own_not hown3 hv3 (by decide)
        have hkp4 : Kp A cb w (w3.setCell ⟨cb, 2, none⟩ (.slice ra (dn.length + 1) rc)) := by
          refine HKP.out.trans ⟨fun g cs ty h1 h2 h3 => ?_, fun w0 h0 => ((h0.alloc _).grown hgrow3 (fun k hk => ownBlock_ge HO.out k hk)).setCell hA _⟩
          rw [blk_far h1, hgrow3.block g (by have := lt_of_cells h3; simp; omega) (own_not HO.out h3 (fun e => h2 e.symm))]
          exact blk_alloc h3
        have hcu4 : Cu A (w3.setCell ⟨cb, 2, none⟩ (.slice ra (dn.length + 1) rc)) cb ib ver (dn ++ [T.node vb vl vg vr]) i a b c e := by
          refine ⟨ra, rc, ?_, ?_⟩
          · have := blk_set hv3 2 (.slice ra (dn.length + 1) rc)
            simpa using this
          · have := own_move (w' := w3.setCell ⟨cb, 2, none⟩ (.slice ra (dn.length + 1) rc)) hown3 fun k hk => blk_far (fun e => hnC' (by rw [hk, e])) _ _
            simpa [T.ptr] using this
        have HKP4 := hidden hkp4
        have HCU4 := hidden hcu4
        have HB := hidden (bk_prev (T.node vb vl vg vr) (w3.setCell ⟨cb, 2, none⟩ (.slice ra (dn.length + 1) rc)) (by simp) (HVR.out _ (hkp4.rep HT.out HCB.out))).2
        have HB' : Hid (Calls Try.prog 30 #[.pointer (some ⟨vb, 0, none⟩)] (w3.setCell ⟨cb, 2, none⟩ (.slice ra (dn.length + 1) rc)) fun e w' => e = .returned ((T.node vb vl vg vr).bak false).ptr ∧ w' = w3.setCell ⟨cb, 2, none⟩ (.slice ra (dn.length + 1) rc)) := HB.out
        clear hkp4 hcu4 hown3 hgrow3 hv3 hnC hnC' HKP HV HO v2 HB
        go_wp2_with (go_at_call 30; (with_reducible refine HB'.out.mono ?_); rintro _ _ ⟨rfl, rfl⟩)
        refine ⟨⟨(T.node vb vl vg vr).bak false, dn ++ [T.node vb vl vg vr], rfl, fun W hW => (rep_bk false (HVR.out W hW)).1, ?_, HKP4.out, HCU4.out⟩, ?_⟩
        · rw [HPT.out, pathD_zero false (t := T.node vb vl vg vr) (by simp)]; simp
        · show htOf w ((T.node vb vl vg vr).bak false).ptr < htOf w (T.node vb vl vg vr).ptr
          rw [hm1, hm0]; exact bak_ht false (by simp)
  | nil =>
    have hup := path_up false t HN.out k hk u hulast hK
    rw [hL] at hup
    have HUP := hidden hup
    have HLL := hidden hL
    show Code.wp _ _ _ ⟨#[_, _, _, _, _, _, _, _, .pointer none, _, _, _, _, _, _, _, _, _, _, _, _, _, _, _, .pointer none, _, _, _, _, _, _, _, _, _, _, _, _, _, _, _, _, _, _, _, _, _, _, _, _, _, _, _, _, _, _, _, _, _, _, _, _, _, _, _, _, _, _, _, _, _, _, _, _, _, _, _, _, _, _, _, _, _, _, _, _, _, _, _, _, _, _, _, _, _, _, _, _, _], _⟩ _
    clear hup hulast hu hur hL hs1
    go_wp2_with (fail)
    go_loopw [9] (fun _ wi => ∃ m : Nat, m ≤ n ∧ Kp A cb w wi ∧ Cu A wi cb ib ver (L.take (m + 1)) i a b c e ∧ ∀ j, m ≤ j → j + 1 < L.length → ¬ Bk false L j) (fun _ wi => cuLen wi cb)
    case atStart => exact ⟨n, Nat.le_refl _, HK1.out, by rw [List.take_of_length_le (by omega)]; exact HC1.out, fun j hj hj2 => by omega⟩
    case round =>
      clear HK1 HC1
      clear w1
      obtain ⟨m, hm, hkp, hcu, hbk⟩ := hrel
      obtain ⟨pa, pc, hv, ho⟩ := hcu
      have hlen : (L.take (m + 1)).length = m + 1 := by simp; omega
      rw [hlen] at hv ho
      obtain ⟨R, rfl⟩ : ∃ R, pa = some ⟨R, 0, none⟩ := by
        rcases ho.2 with ⟨h1, _⟩ | ⟨g, cap, cur, h1, _⟩
        · simp at h1
        · simp at h1; exact ⟨g, h1.1⟩
      have HKP := hidden hkp
      have HV := hidden hv
      have HO := hidden ho
      have HBK := hidden hbk
      have v2 := cell_of_cells hv 2
      have vm := mark_of_cells hv 2
      have hcw := lt_of_cells hv
      have hRw := (ho.lt R rfl).2
      simp at v2
      have hml : cuLen wr cb = m + 1 := by simp [cuLen, v2, lenOf]
      have hrow : Hid (∀ j, j < m + 1 → ∃ x, L[j]? = some x ∧ x ≠ .nil ∧ (∀ W, t.Rep W → x.Rep W) ∧ wr.cell? ⟨R, j, none⟩ = some (.pointer (some ⟨x.blk, 0, none⟩))) := fun j hj => by
        have hx : L[j]? = some (L[j]'(by omega)) := List.getElem?_eq_getElem _
        obtain ⟨h1, h2⟩ := path_mem false t k _ (by rw [HLL.out]; exact List.mem_of_getElem? hx)
        refine ⟨_, hx, h1, h2, ?_⟩
        rw [ho.cellAt j (by omega)]
        simp only [List.getElem?_map, List.getElem?_take, if_pos hj, hx, Option.map_some, T.ptr_of h1]
      clear hkp hv ho hbk hlen
      rcases m with _ | m
      · go_wp2_with (fail)
        go_ret
        obtain ⟨g1, g2⟩ := cut_any HV.out HO.out 0 (by omega)
        refine ⟨HKP.out.set hA _ _, .inr ⟨?_, rfl, some ⟨R, 0, none⟩, pc, by simpa using g1, by simpa using g2⟩⟩
        rcases HUP.out with ⟨m0, h1, _, _, h4, _⟩ | ⟨h1, _⟩
        · exact absurd h4 (HBK.out m0 (Nat.zero_le _) h1)
        · exact h1
      · obtain ⟨y, hy, hy0, hyr, hyc⟩ := hrow.out (m + 1) (by omega)
        obtain ⟨x, hx, hx0, hxr, hxc⟩ := hrow.out m (by omega)
        go_upto_region 9 with (fail)
        refine wp_region_ext (by kernel_rfl) (by kernel_rfl) ?_
        repeat (go_big_quiet_step (fail))
        rintro w2 ⟨x2, rfl⟩
        go_upto_region 10 with (fail)
        have q2 : (ext wr x2).cell? ⟨cb, 2, none⟩ = some (.slice (some ⟨R, 0, none⟩) (m + 2) pc) := by rw [ext_cell wr x2 cb 2 hcw]; exact v2
        have qm : (ext wr x2).frozen? ⟨cb, 2, none⟩ = false := by rw [ext_frozen wr x2 cb 2 hcw]; exact vm
        have HV2 := hidden (blk_ext (x := x2) HV.out)
        have HO2 := hidden (own_ext HO.out x2)
        have HK2 := hidden (HKP.out.ext x2)
        have qx : (ext wr x2).cell? ⟨R, m, none⟩ = some (.pointer (some ⟨x.blk, 0, none⟩)) := by rw [ext_cell wr x2 R m hRw]; exact hxc
        have hpc : m + 2 ≤ pc := own_cap HO2.out
        have e1 : (m : Int) + 2 - 1 = ((m + 1 : Nat) : Int) := by omega
        clear v2 vm hyc hxc HV HO HKP hrow
        generalize ext wr x2 = w5 at *
        go_region
        go_upto_region 11 with (fail)
        have hcut := cut_any HV2.out HO2.out (m + 1) (by omega)
        refine wp_gen (fun W => Kp A cb w W ∧ W.heap[cb]? = some (.cells #[.pointer (some ⟨ib, 0, none⟩), .int .u64 ver, .slice (some ⟨R, 0, none⟩) (m + 1) pc, .int .i64 i, .int .i64 a, .int .i64 b, .int .i64 c, .int .i64 e] 49) ∧ W.ownsRow A 43 1 (.slice (some ⟨R, 0, none⟩) (m + 1) pc) (m + 1) ((L.take (m + 1)).map T.ptr)) ?_ ?_
        · refine ⟨(HK2.out.set hA _ _).drew, hcut.1, ?_⟩
          have h2 := hcut.2
          rw [← List.map_take, List.take_take, Nat.min_eq_left (by omega)] at h2
          exact own_move h2 fun _ _ => rfl
        clear hcut q2 qm qx HV2 HO2 HK2
        rintro w6 ⟨hkp6, hv6, ho6⟩
        have z2 := cell_of_cells hv6 2
        have hcw6 := lt_of_cells hv6
        have hRw6 := (ho6.lt R rfl).2
        simp at z2
        have rx : w6.cell? ⟨R, m, none⟩ = some (.pointer (some ⟨x.blk, 0, none⟩)) := by
          rw [ho6.cellAt m (by omega)]
          simp [hx, T.ptr_of hx0]
        have hxr6 : x.Rep w6 := hxr _ (hkp6.rep HT.out HCB.out)
        have hcu6 : Cu A w6 cb ib ver (L.take (m + 1)) i a b c e := ⟨some ⟨R, 0, none⟩, pc, by rw [show (L.take (m + 1)).length = m + 1 by simp; omega]; exact hv6, by rw [show (L.take (m + 1)).length = m + 1 by simp; omega]; exact ho6⟩
        have HCU6 := hidden hcu6
        have HKP6 := hidden hkp6
        have hl6 : cuLen w6 cb = m + 1 := by simp [cuLen, z2, lenOf]
        have HB : Hid (∀ z, Calls Try.prog 30 #[.pointer (some ⟨x.blk, 0, none⟩)] (ext w6 z) fun e w' => e = .returned (x.bak false).ptr ∧ ∃ y, w' = ext (ext w6 z) y) := fun z =>
          (bk_prev x (ext w6 z) hx0 (hxr6.tw (Tw.of_ext w6 z) (by simp))).2.mono fun _ _ ⟨h1, h2⟩ => ⟨h1, by rw [h2]; exact (Gr.refl _).of⟩
        have hxD : (pathD false t k)[m]? = some x := by rw [HLL.out]; exact hx
        have hyD : (pathD false t k)[m + 1]? = some y := by rw [HLL.out]; exact hy
        clear hkp6 hv6 ho6 hcu6 hxr6
        by_cases hb : Bk false L m
        · have hxy : x.bak false = y := by
            obtain ⟨x', y', h1, h2, h3⟩ := hb
            rw [hx] at h1; rw [hy] at h2
            injection h1 with h1; injection h2 with h2
            rw [h1, h2]; exact h3
          rw [hxy, T.ptr_of hy0] at HB
          have hend : k + 1 < t.sz ∧ pathD false t (k + 1) = L.take (m + 1) := by
            rcases HUP.out with ⟨m0, h1, h2, h3, h4, h5⟩ | ⟨_, h1⟩
            · have : m0 = m := by
                rcases Nat.lt_trichotomy m0 m with h | h | h
                · exact absurd hb (h5 m h (by omega))
                · exact h
                · exact absurd h4 (HBK.out m0 (by omega) h1)
              rw [this] at h3
              exact ⟨h2, h3⟩
            · exact absurd hb (h1 m (by omega))
          have HE := hidden hend
          have hE := eq_same y.blk
          clear hend hb hx hy hxD hyD hxy
          refine wp_region_ext (by kernel_rfl) (by kernel_rfl) ?_
          repeat (go_big_quiet_step ((go_at_call 30; first | exact Calls_ext (HB.out _) | exact Calls_ext2 (HB.out _))))
          rintro w7 ⟨x7, rfl⟩
          go_wp2_with (fail)
          go_ret
          refine ⟨HKP6.out.ext x7, .inl ⟨HE.out.1, rfl, ?_⟩⟩
          rw [HE.out.2]
          obtain ⟨pa', pc', g1, g2⟩ := HCU6.out
          exact ⟨pa', pc', blk_ext g1, own_ext g2 x7⟩
        · have hbk2 : Hid (∀ j, m ≤ j → j + 1 < L.length → ¬ Bk false L j) := fun j h1 h2 => by
            rcases Nat.eq_or_lt_of_le h1 with h | h
            · rw [← h]; exact hb
            · exact HBK.out j (by omega) h2
          have hlast : ∀ x7, ∃ m', m' ≤ n ∧ Kp A cb w (ext w6 x7) ∧ Cu A (ext w6 x7) cb ib ver (L.take (m' + 1)) i a b c e ∧ ∀ j, m' ≤ j → j + 1 < L.length → ¬ Bk false L j := fun x7 => by
            obtain ⟨pa', pc', g1, g2⟩ := HCU6.out
            exact ⟨m, by omega, HKP6.out.ext x7, ⟨pa', pc', blk_ext g1, own_ext g2 x7⟩, hbk2.out⟩
          have HLA := hidden hlast
          have hlm : ∀ x7, cuLen (ext w6 x7) cb = m + 1 := fun x7 => by simp only [cuLen]; rw [ext_cell w6 x7 cb 2 hcw6, z2]; rfl
          have HLM := hidden hlm
          have HEQ : Hid (x.bak false ≠ .nil → ∀ z, (binOp .eql 43 (.pointer (some ⟨(x.bak false).blk, 0, none⟩)) (.pointer (some ⟨y.blk, 0, none⟩))).run Try.prog (ext w6 z) = .ok (.bool false) (ext w6 z)) := fun h0 z => by
            have g1 := hyr _ ((HKP6.out.ext z).rep HT.out HCB.out)
            have g2 := (rep_bk false (hxr _ ((HKP6.out.ext z).rep HT.out HCB.out))).1
            have hne := path_ne false HN.out hxD hyD (by rw [HLL.out]; exact hb) h0
            generalize x.bak false = v at *
            cases v with
            | nil => exact absurd rfl h0
            | node vb vl vg vr =>
              cases y with
              | nil => exact absurd rfl hy0
              | node yb yl yg yr => exact eq_other vb yb _ hne g2.1 g1.1
          have HNB : Hid (x.bak false ≠ .nil → (x.bak false).blk ≠ y.blk) := fun h0 => path_ne false HN.out hxD hyD (by rw [HLL.out]; exact hb) h0
          clear hlast hlm hb hx hy hxD hyD
          by_cases h0 : x.bak false = .nil
          · rw [h0] at HB
            simp only [T.ptr] at HB
            have hE := eq_nil y.blk
            refine wp_region_ext (by kernel_rfl) (by kernel_rfl) ?_
            repeat (go_big_quiet_step ((go_at_call 30; first | exact Calls_ext (HB.out _) | exact Calls_ext2 (HB.out _))))
            rintro w7 ⟨x7, rfl⟩
            go_wp2_with (fail)
            exact ⟨HLA.out x7, by rw [HLM.out, hml]; omega⟩
          · have hne := HNB.out h0
            rw [T.ptr_of h0] at HB
            have hE := HEQ.out h0
            clear HEQ HNB
            generalize (x.bak false).blk = zb at *
            refine wp_region_ext (by kernel_rfl) (by kernel_rfl) ?_
            repeat (go_big_quiet_step ((go_at_call 30; first | exact Calls_ext (HB.out _) | exact Calls_ext2 (HB.out _))))
            rintro w7 ⟨x7, rfl⟩
            go_wp2_with (fail)
            exact ⟨HLA.out x7, by rw [HLM.out, hml]; omega⟩
end Go.Proofs.Qxb6500688a
