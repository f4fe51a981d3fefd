import Derived.Test.Qxb6500679aRd
import Derived.Deep.DeepCutAuto
namespace Go.Proofs.Qxb6500679a
open Go.RowKit Go.BigFrame
set_option linter.unusedSimpArgs false
attribute [local go_sem] ext_cell_if ext_frozen_if alloc_cell_if alloc_frozen_if ext_size ext_ext
theorem Try.info5 : (Try.prog.info? 5).map (fun i => (i.zero, i.size, i.bytes)) = some (some (.int .u8 0), 1, 1) := by kernel_rfl
theorem Row64.below {w w' : World} {b o B : Nat} {l : List Nat} (h : Row64 w b o l) (hb : Below B w w') (hB : b < B) : Row64 w' b o l :=
  ⟨h.1, fun j hj => by rw [hb.cell (p := ⟨b, o + j, none⟩) hB]; exact h.2 j hj⟩
theorem Row64.take {w : World} {b o : Nat} {l : List Nat} (h : Row64 w b o l) (s : Nat) : Row64 w b o (l.take s) :=
  ⟨fun v hv => h.1 v (List.mem_of_mem_take hv), fun j hj => by rw [h.2 j (by simp at hj; omega)]; simp⟩
theorem Row64.drop {w : World} {b o : Nat} {l : List Nat} (h : Row64 w b o l) (s : Nat) : Row64 w b (o + s) (l.drop s) :=
  ⟨fun v hv => h.1 v (List.mem_of_mem_drop hv), fun j hj => by rw [show o + s + j = o + (s + j) by omega, h.2 (s + j) (by simp at hj; omega)]; simp⟩
theorem own_slice {w : World} {base : Nat} {e : TypeId} {size : Nat} {v : Value} {n : Nat} {xs : List Value} (h : w.ownsRow base e size v n xs) : ∃ a m c, v = .slice a m c := by
  obtain ⟨_, ⟨rfl, _⟩ | ⟨g, cap, cur, rfl, _⟩⟩ := h
  · exact ⟨_, _, _, rfl⟩
  · exact ⟨_, _, _, rfl⟩
theorem bst_zero (f : Nat → Nat) : bst f 0 = (0, f 0) := rfl
/-- A slice's length. -/
def lenOf : Value → Nat
  | .slice _ n _ => n
  | _ => 0
theorem plen_bd (m o : Nat) (hm : m ≤ 5000) : plen m o ≤ 5001 := by
  unfold plen
  have : (m + 2 ^ o - 1) / 2 ^ o ≤ m := by
    have hp : 0 < 2 ^ o := Nat.pow_pos (by decide)
    rcases Nat.eq_zero_or_pos m with h | h
    · subst h; rw [Nat.div_eq_of_lt (by omega)]; omega
    · apply Nat.le_of_lt_succ
      rw [Nat.div_lt_iff_lt_mul hp, Nat.succ_mul]
      have : m ≤ m * 2 ^ o := Nat.le_mul_of_pos_right m hp
      omega
  omega
attribute [local irreducible] bst ordCost ordPars cst plen pars btot
set_option maxHeartbeats 400000 in
theorem bestPartitioning_any (a : Option Addr) (b o c : Nat) (l : List Nat) (w : World) (ha : l ≠ [] → a = some ⟨b, o, none⟩ ∧ b < w.heap.size) (hl : Row64 w b o l) (hn : l.length ≤ 4999) (hc : l.length ≤ c) :
    Calls Try.prog 17 #[.slice a l.length c] w fun e w' => ∃ V, e = .returned (.agg #[.int .i64 (bst (ordCost l) 7).1, V, .int .i64 (bst (ordCost l) 7).2]) ∧ Rd w.heap.size w'.heap.size w' .u8 V (ordPars l (bst (ordCost l) 7).1) ∧ ∃ x, w' = ext w x := by
  have HL := hidden hl
  have HA := hidden ha
  clear hl ha
  obtain ⟨i0, hi, hz0, hz1, hz2⟩ := info_parts Try.info5
  go_enter Try.func17, Try.ntmps17
  go_wp2
  go_loopw [4] (fun i wr => ∃ (r : Nat) (va : Option Addr) (vn vc p T : Nat), r ≤ 8 ∧ i = .int .i64 r ∧ Gr w.heap.size w wr ∧ wr.heap[w.heap.size]? = some (.cells #[.int .i64 0, .slice none 0 0, .int .i64 0] 53) ∧ wr.heap[w.heap.size + 1]? = some (.cells #[.int .i64 p, .slice va vn vc, .int .i64 T] 53) ∧ T ≤ 600000 ∧
     (0 < r → p = (bst (ordCost l) (r - 1)).1 ∧ T = (bst (ordCost l) (r - 1)).2 ∧ Rd (w.heap.size + 2) wr.heap.size wr .u8 (.slice va vn vc) (ordPars l p))) (fun i _ => 8 - (intOf i).toNat)
  case atStart =>
    refine ⟨0, none, 0, 0, 0, 0, by omega, rfl, ((Gr.refl w).alloc _).alloc _, blk_alloc (heap_new w _), ?_, by omega, by omega⟩
    have := heap_new (w.alloc (.cells #[.int .i64 0, .slice none 0 0, .int .i64 0] 53)) (.cells #[.int .i64 0, .slice none 0 0, .int .i64 0] 53)
    simpa using this
  case round =>
    obtain ⟨r, va, vn, vc, p, T, hr, rfl, hgr, h2, h3, hT, hbest⟩ := hrel
    have c20 := cell_of_cells h2 0
    have c21 := cell_of_cells h2 1
    have c22 := cell_of_cells h2 2
    have m2 := mark_of_cells h2
    have c30 := cell_of_cells h3 0
    have c31 := cell_of_cells h3 1
    have c32 := cell_of_cells h3 2
    have m3 := mark_of_cells h3
    simp at c20 c21 c22 c30 c31 c32
    have hlt := lt_of_cells h3
    by_cases h8 : r = 8
    · subst h8
      obtain ⟨e1, e2, hrd⟩ := hbest (by omega)
      have Hrd := hidden hrd
      have He1 := hidden e1
      have He2 := hidden e2
      clear hbest hrd e1 e2
      go_wp2
      have e1 : p = (bst (ordCost l) 7).1 := He1.out
      have e2 : T = (bst (ordCost l) 7).2 := He2.out
      rw [← e1, ← e2]
      refine bodyPost_ret (v := .agg #[.int .i64 p, .slice va vn vc, .int .i64 T]) (by simp [results, Try.results17, go_sem, *, ↓IntWalk.iteOmega]) rfl ⟨_, rfl, ?_, Gr.of (by repeat (first | exact hgr | refine Gr.setCell ?_ (by simp) _))⟩
      simp only [size_setCell]
      exact (((Hrd.out.set _ _ _ (.inl (by omega))).set _ _ _ (.inl (by omega))).set _ _ _ (.inl (by omega))).mono (by omega) (by omega)
    · have HP := hidden (fun (k : Nat) (hk : k ≤ 7) w => partLen_any l.length k (by omega) hk w)
      have HE : Hid (0 < r → plen l.length r = plen l.length (r - 1) → bst (ordCost l) 7 = bst (ordCost l) (r - 1)) := fun h0 h1 => ord_stop l (r - 1) (by omega) (by rw [show r - 1 + 1 = r by omega]; exact h1)
      have hf0 : ∀ k, 0 < plen l.length k ∧ plen l.length k ≤ 5001 := fun k => ⟨plen_pos _ _, plen_bd _ _ (by omega)⟩
      have HF := hidden (fun k => (rfl : plen l.length k = plen l.length k))
      generalize hf : plen l.length = f at HP HE hf0 HF
      have Hf := hidden hf
      obtain ⟨r1, hr1⟩ : ∃ r1, r - 1 = r1 := ⟨_, rfl⟩
      have hs0 := hf0 r
      have hs1 := hf0 r1
      rw [hr1] at HE hbest
      clear hf hf0 HF
      by_cases hbk : 0 < r ∧ f r = f r1
      · obtain ⟨h0, hs⟩ := hbk
        have hr2 : (r : Int) - 1 = (r1 : Int) := by omega
        clear hr1
        have He := hidden (HE.out h0 hs)
        obtain ⟨e1, e2, hrd⟩ := hbest h0
        have Hrd := hidden hrd
        have He1 := hidden e1
        have He2 := hidden e2
        clear hbest hrd e1 e2 HE
        go_wp2_with (go_at_call 28; refine (HP.out _ (by omega) _).mono ?_; rintro e w' ⟨rfl, rfl⟩)
        have e1 : p = (bst (ordCost l) 7).1 := by rw [He.out]; exact He1.out
        have e2 : T = (bst (ordCost l) 7).2 := by rw [He.out]; exact He2.out
        rw [← e1, ← e2]
        refine bodyPost_ret (v := .agg #[.int .i64 p, .slice va vn vc, .int .i64 T]) (by simp [results, Try.results17, go_sem, *, ↓IntWalk.iteOmega]) rfl ⟨_, rfl, ?_, Gr.of (by repeat (first | exact hgr | refine Gr.setCell ?_ (by simp) _))⟩
        simp only [size_setCell]
        exact (((Hrd.out.set _ _ _ (.inl (by omega))).set _ _ _ (.inl (by omega))).set _ _ _ (.inl (by omega))).mono (by omega) (by omega)
      · have hr2 : 0 < r → (r : Int) - 1 = (r1 : Int) := by omega
        clear HE
        have Hb := hidden hbest
        clear hbest
        go_upto_region 6 with (go_at_call 28; refine (HP.out _ (by omega) _).mono ?_; rintro e w' ⟨rfl, rfl⟩)
        go_cut [5, 28] (fun s5 s28 wx => s5 = .int .i64 (f r) ∧ s28 = .bool false ∧ wx = w')
        case first =>
          rcases Nat.eq_zero_or_pos r with rfl | h0
          · go_wp2
            go_meet
            case rel => exact ⟨rfl, rfl, rfl⟩
          · have hr3 := hr2 h0
            have hne : ¬ f r = f r1 := fun h => hbk ⟨h0, h⟩
            clear hbk
            go_wp2_with (go_at_call 28; refine (HP.out _ (by omega) _).mono ?_; rintro e w' ⟨rfl, rfl⟩)
            go_meet
            case rel => exact ⟨rfl, by simp; omega, rfl⟩
        case rest =>
          obtain ⟨rfl, rfl, rfl⟩ := hcut
          go_wp2
          obtain ⟨sz, hsz⟩ : ∃ sz, sz = f r := ⟨_, rfl⟩
          rw [← hsz]
          have Hsz : Hid (sz = plen l.length r) := by rw [hsz]; rw [← Hf.out]; exact rfl
          obtain ⟨hz1', hz2'⟩ : 0 < sz ∧ sz ≤ 5001 := by rw [hsz]; exact hs0
          have Hr1 := hidden hr1
          clear hsz hs0 hs1 hbk hr1 hr2 m2 m3 c20 c21 c22 c30 c31 c32 HP Hf
          refine wp_gen (fun wa => Below wc.heap.size wc wa ∧ wc.heap.size < wa.heap.size ∧ wa.heap[wc.heap.size]? = some (.cells #[.int .i64 r, .slice none 0 0, .int .i64 0] 53)) ⟨((Gr.refl wc).alloc _).1, by simp, heap_new wc _⟩ ?_
          rintro wa ⟨hb0, hlt0, hv0⟩
          go_loopw [7] (fun v wi => ∃ (l' P1 : List Nat) (o' c7 S : Nat) (a7 : Option Addr) (qa : Option Addr) (qn qc : Nat), v = .slice a7 l'.length c7 ∧ l'.length ≤ c7 ∧ l'.length ≤ l.length ∧ (l' ≠ [] → a7 = some ⟨b, o', none⟩ ∧ b < w.heap.size ∧ Row64 w b o' l') ∧
             Below wc.heap.size wc wi ∧ wc.heap.size < wi.heap.size ∧ wi.heap[wc.heap.size]? = some (.cells #[.int .i64 r, .slice qa qn qc, .int .i64 S] 53) ∧
             wi.ownsRow (wc.heap.size + 1) 5 1 (.slice qa qn qc) P1.length (P1.map fun (n : Nat) => Value.int .u8 (n : Int)) ∧ pars sz l.length l = P1 ++ pars sz l.length l' ∧ S + btot sz l.length l' = btot sz l.length l ∧ P1.length + l'.length ≤ l.length) (fun v _ => lenOf v)
          case atStart => exact ⟨l, [], o, c, 0, a, none, 0, 0, rfl, hc, Nat.le_refl _, fun h => ⟨(HA.out h).1, (HA.out h).2, HL.out⟩, hb0, hlt0, hv0, World.ownsRow_nil _ _ _ _, rfl, by omega, by simp⟩
          case round =>
            clear hb0 hlt0 hv0 wa
            obtain ⟨l', P1, o', c7, S, a7, qa, qn, qc, rfl, hc7, hl7, ha7, hb, hlt', hv, hown, hP, hS, hPl⟩ := hrel
            have d0 := cell_of_cells hv 0
            have d1 := cell_of_cells hv 1
            have d2 := cell_of_cells hv 2
            have dm := mark_of_cells hv
            simp at d0 d1 d2
            by_cases hnil : l' = []
            · subst hnil
              rw [pars_nil, List.append_nil] at hP
              rw [btot_nil, Nat.add_zero] at hS
              have hrd : Rd (wc.heap.size + 1) wr.heap.size wr .u8 (.slice qa qn qc) P1 := Rd.own hown
              have HR1 : Hid (ordPars l r = P1) := by show ordPars l r = P1; unfold ordPars; rw [← Hsz.out]; exact hP
              have HR2 : ordCost l r = S := by unfold ordCost; rw [← Hsz.out]; exact hS.symm
              have b3 := btot_le sz hz1' l.length l l.length (Nat.le_refl _) (Nat.le_refl _)
              have hS' : S ≤ 600000 := by omega
              have hgr' : Gr w.heap.size w wr := ⟨hgr.1.trans (hb.mono hgr.2), by have := hgr.2; omega⟩
              have k2 : wr.heap[w.heap.size]? = some (.cells #[.int .i64 0, .slice none 0 0, .int .i64 0] 53) := by rw [hb.block _ (by omega)]; exact h2
              have k3 : wr.heap[w.heap.size + 1]? = some (.cells #[.int .i64 p, .slice va vn vc, .int .i64 T] 53) := by rw [hb.block _ (by omega)]; exact h3
              have c30 := cell_of_cells k3 0
              have c31 := cell_of_cells k3 1
              have c32 := cell_of_cells k3 2
              have m3 := mark_of_cells k3
              simp at c30 c31 c32
              have HB := bst_succ (ordCost l) r1
              have Hrd := hidden hrd
              clear hP hS hown hrd b3 ha7
              rcases Nat.eq_zero_or_pos r with rfl | h0
              · go_wp2
                refine ⟨⟨1, qa, qn, qc, 0, S, by omega, rfl, ((hgr'.setCell (by simp) _).setCell (by simp) _).setCell (by simp) _, ?_, ?_, hS', fun _ => ⟨by rw [bst_zero], by rw [bst_zero]; exact HR2.symm, ?_⟩⟩, by simp [intOf]⟩
                · rw [blk_far (by omega), blk_far (by omega), blk_far (by omega)]; exact k2
                · have := blk_set (blk_set (blk_set k3 0 (.int .i64 0)) 1 (.slice qa qn qc)) 2 (.int .i64 S)
                  simpa using this
                · simp only [size_setCell]
                  rw [HR1.out]
                  exact (((Hrd.out.set _ _ _ (.inl (by omega))).set _ _ _ (.inl (by omega))).set _ _ _ (.inl (by omega))).mono (by omega) (by omega)
              · obtain ⟨g1, g2, g3⟩ := Hb.out h0
                have hrr : r = r1 + 1 := by have := Hr1.out; omega
                have hbr : bst (ordCost l) r1 = (p, T) := by rw [g1, g2]
                rw [← hrr, HR2, hbr] at HB
                simp only at HB
                have HB' := hidden HB
                have Hg3 := hidden g3
                have He1 := hidden g1
                have He2 := hidden g2
                clear g1 g2 g3 HB Hb hbr hrr Hr1
                by_cases hlow : S < T
                · go_wp2
                  refine ⟨⟨r + 1, qa, qn, qc, r, S, by omega, by go_num, ((hgr'.setCell (by simp) _).setCell (by simp) _).setCell (by simp) _, ?_, ?_, hS', fun _ => ⟨by rw [Nat.add_sub_cancel, HB'.out, if_pos (by omega)], by rw [Nat.add_sub_cancel, HB'.out, if_pos (by omega)], ?_⟩⟩, by simp [intOf]; omega⟩
                  · rw [blk_far (by omega), blk_far (by omega), blk_far (by omega)]; exact k2
                  · have := blk_set (blk_set (blk_set k3 0 (.int .i64 r)) 1 (.slice qa qn qc)) 2 (.int .i64 S)
                    simpa using this
                  · simp only [size_setCell]
                    rw [HR1.out]
                    exact (((Hrd.out.set _ _ _ (.inl (by omega))).set _ _ _ (.inl (by omega))).set _ _ _ (.inl (by omega))).mono (by omega) (by omega)
                · go_wp2
                  refine ⟨⟨r + 1, va, vn, vc, p, T, by omega, by go_num, hgr', k2, k3, hT, fun _ => ⟨by rw [Nat.add_sub_cancel, HB'.out, if_neg (by omega)], by rw [Nat.add_sub_cancel, HB'.out, if_neg (by omega)], ?_⟩⟩, by simp [intOf]; omega⟩
                  exact (Hg3.out.below hb).mono (by omega) (by omega)
            · obtain ⟨rfl, hbw, hrow⟩ := ha7 hnil
              have hpos : 0 < l'.length := List.length_pos_iff.2 hnil
              have hrow' : Row64 wr b o' (l'.take sz) := (hrow.below hgr.1 hbw |>.below hb (by have := hgr.2; omega)).take sz
              obtain ⟨k, hk⟩ : ∃ k, k = min sz l'.length := ⟨_, rfl⟩
              have hk2 : min (sz : Int) (l'.length : Int) = (k : Int) := by omega
              have HB := bestParam_any b o' c7 (l'.take sz) wr hrow' (by simp; omega)
              have hkl : (l'.take sz).length = k := by simp; omega
              rw [hkl] at HB
              have e1 := pars_step sz hz1' l' hnil l.length hl7
              have e2 := btot_step sz hz1' l' hnil l.length hl7
              have b1 := bst_val (cst (l'.take sz)) 40
              have b2 := cst_le (l'.take sz) (bst (cst (l'.take sz)) 40).1 b1.2
              rw [b1.1, hkl] at b2
              have b3 := btot_le sz hz1' l.length l l.length (Nat.le_refl _) (Nat.le_refl _)
              generalize bst (cst (l'.take sz)) 40 = D at *
              obtain ⟨p8, T8⟩ := D
              simp only at b1 b2 HB e1 e2
              have b1 := b1.2
              have HBP := hidden HB
              have HO := hidden hown
              have HP1 : pars sz l.length l = (P1 ++ [p8]) ++ pars sz l.length (l'.drop sz) := by rw [hP, e1]; simp
              have HP1 := hidden HP1
              have HS1 : S + (6 + T8) + btot sz l.length (l'.drop sz) = btot sz l.length l := by rw [← hS, e2]; omega
              have HS1 := hidden HS1
              have hS' : S ≤ 600000 := by omega
              have hk1 : k ≤ l'.length := by omega
              have hk0 : 0 < k := by omega
              have HK := hidden hk
              have Hrow := hidden hrow
              have HD := hidden dm
              clear e1 e2 hP hS hown HB hrow' hkl b3 hk
              go_wp2_with (first | (go_at_call 29; refine HBP.out.mono ?_; rintro e w' ⟨rfl, rfl⟩) | (at_builtin; refine wpList_append_own _ rfl (.tmp 52) (.tmp 55) 51 rfl (wc.heap.size + 1) 5 i0 (.int .u8 0) 1 1 Try.underlying51 hi hz0 hz1 hz2 rfl (by decide) (.slice qa qn qc) P1.length _ (by simp [Act.eval]) (HO.out.alloc _) ⟨w'.heap.size, 0, none⟩ 1 1 [.int .u8 p8] (by simp [Act.eval]) rfl (by intro j u hj; rcases j with _ | j <;> simp at hj; subst hj; simp [Addr.add]) (by intro u hu; simp at hu; subst hu; rfl) (by unfold maxLen; omega) (by omega) (by simp; omega) ?_))
              intro v' w1 hown' hgrow _
              obtain ⟨qa', qn', qc', rfl⟩ := own_slice hown'
              have hrow1 : some wc.heap.size ≠ (Value.slice qa qn qc).ownBlock := fun e => by have := ownBlock_ge HO.out _ e.symm; omega
              have hv1 : w1.heap[wc.heap.size]? = some (.cells #[.int .i64 r, .slice qa qn qc, .int .i64 S] 53) := by rw [hgrow.block wc.heap.size (by simp; omega) hrow1]; exact blk_alloc hv
              have hb1 : Below wc.heap.size wc w1 := (hb.alloc (by omega) _).grown hgrow (by simp; omega) (fun k hk => by have := ownBlock_ge HO.out k hk; omega)
              have hlt1 : wc.heap.size < w1.heap.size := lt_of_cells hv1
              have d0' := cell_of_cells hv1 0
              have d1' := cell_of_cells hv1 1
              have d2' := cell_of_cells hv1 2
              have dm' := mark_of_cells hv1
              simp at d0' d1' d2'
              have HO' := hidden hown'
              clear hown' hgrow d0 d1 d2
              go_wp2
              have hdl : (l'.drop sz).length = l'.length - k := by have := HK.out; simp; omega
              refine ⟨⟨l'.drop sz, P1 ++ [p8], o' + sz, c7 - k, S + (6 + T8), _, qa', qn', qc', by rw [hdl], by omega, by omega, fun hne => ?_, (hb1.setCell (Nat.le_refl _) _).setCell (Nat.le_refl _) _, by simp only [size_setCell]; omega, ?_, ?_, HP1.out, HS1.out, by rw [hdl]; simp; omega⟩, by simp only [lenOf]; omega⟩
              · have h5 : 0 < (l'.drop sz).length := List.length_pos_iff.2 hne
                have h6 : k = sz := by have := HK.out; omega
                refine ⟨?_, hbw, Hrow.out.drop sz⟩
                rw [if_neg (by omega), h6]
              · have := blk_set (blk_set hv1 1 (.slice qa' qn' qc')) 2 (.int .i64 (↑S + (6 + ↑T8)))
                simpa using this
              · have h7 : ∀ u, (Value.slice qa' qn' qc').ownBlock = none ∨ (Value.slice qa' qn' qc').ownBlock ≠ some u ∨ wc.heap.size + 1 ≤ u := fun u => by
                  by_cases e : (Value.slice qa' qn' qc').ownBlock = some u
                  · exact .inr (.inr (ownBlock_ge HO'.out _ e))
                  · exact .inr (.inl e)
                have h8 : (Value.slice qa' qn' qc').ownBlock = none ∨ (Value.slice qa' qn' qc').ownBlock ≠ some wc.heap.size := by
                  rcases h7 wc.heap.size with h | h | h
                  · exact .inl h
                  · exact .inr h
                  · omega
                have := (HO'.out.kept (grown_set _ ⟨wc.heap.size, 1, none⟩ (.slice qa' qn' qc')) h8).kept (grown_set _ ⟨wc.heap.size, 2, none⟩ (.int .i64 (↑S + (6 + ↑T8)))) h8
                simpa using this
end Go.Proofs.Qxb6500679a
