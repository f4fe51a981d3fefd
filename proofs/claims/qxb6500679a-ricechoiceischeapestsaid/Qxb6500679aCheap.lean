import Derived.Test.Qxb6500679aPart
namespace Go.Proofs.Qxb6500679a
open Go.RowKit Go.BigFrame
set_option linter.unusedSimpArgs false
attribute [local go_sem] ext_cell_if ext_frozen_if alloc_cell_if alloc_frozen_if ext_size ext_ext
theorem Try.info3 : (Try.prog.info? 3).map (fun i => (i.zero, i.size, i.bytes)) = some (some (.int .i64 0), 1, 8) := by kernel_rfl
theorem pars_cover (s : Nat) (hs : 0 < s) : ∀ (n : Nat) (l : List Nat) (f : Nat), l.length ≤ n → l.length ≤ f → l.length ≤ (pars s f l).length * s := by
  intro n
  induction n with
  | zero => intro l f h1 _; omega
  | succ n ih =>
    intro l f h1 h2
    by_cases hl : l = []
    · subst hl; simp
    · rw [pars_step s hs l hl f h2, List.length_cons, Nat.add_mul, Nat.one_mul]
      have hp := List.length_pos_iff.2 hl
      have := ih (l.drop s) f (by simp; omega) (by simp; omega)
      simp at this
      omega
theorem pars_idx (s : Nat) (hs : 0 < s) (l : List Nat) (j : Nat) (hj : j < l.length) : j / s < (pars s l.length l).length := by
  rw [Nat.div_lt_iff_lt_mul hs]
  exact Nat.lt_of_lt_of_le hj (pars_cover s hs l.length l l.length (Nat.le_refl _) (Nat.le_refl _))
theorem costFrom_ord (l : List Nat) (r : Nat) : costFrom (plen l.length r) (fun i => (ordPars l r).getD i 0) 0 l = ordCost l r := by
  have := costFrom_pars (plen l.length r) (plen_pos _ _) l.length l 0 l.length (fun i => (ordPars l r).getD i 0) (Nat.le_refl _) (Nat.le_refl _) (fun i _ => by rw [Nat.zero_add]; rfl)
  rw [Nat.zero_mul] at this
  exact this
theorem pars_len (s : Nat) (hs : 0 < s) : ∀ (n : Nat) (l : List Nat) (f : Nat), l.length ≤ n → l.length ≤ f → (pars s f l).length ≤ l.length := by
  intro n
  induction n with
  | zero => intro l f h1 _; obtain rfl : l = [] := List.eq_nil_of_length_eq_zero (by omega); rw [pars_nil]; simp
  | succ n ih =>
    intro l f h1 h2
    by_cases hl : l = []
    · subst hl; rw [pars_nil]; simp
    · rw [pars_step s hs l hl f h2, List.length_cons]
      have hp := List.length_pos_iff.2 hl
      have := ih (l.drop s) f (by simp; omega) (by simp; omega)
      simp at this
      omega
theorem ordCost_le (l : List Nat) (r : Nat) : ordCost l r ≤ 102 * l.length := btot_le _ (plen_pos _ _) l.length l l.length (Nat.le_refl _) (Nat.le_refl _)
attribute [local irreducible] bst ordCost ordPars cst plen pars btot costFrom
set_option maxRecDepth 100000 in
set_option maxHeartbeats 1000000 in
theorem cheapest_any (a : Option Addr) (b o c : Nat) (l : List Nat) (w : World) (ha : l ≠ [] → a = some ⟨b, o, none⟩ ∧ b < w.heap.size) (hl : Row64 w b o l) (hn : l.length ≤ 4999) (hc : l.length ≤ c) :
    Calls Try.prog 18 #[.slice a l.length c] w fun e w' => ∃ V, e = .returned (.tuple #[.int .i64 (bst (ordCost l) 7).1, V, .int .i64 (bst (ordCost l) 7).2]) ∧ Rd w.heap.size w'.heap.size w' .i64 V (ordPars l (bst (ordCost l) 7).1) ∧ ∃ x, w' = ext w x := by
  have HL := hidden hl
  have HA := hidden ha
  clear hl ha
  obtain ⟨i0, hi, hz0, hz1, hz2⟩ := info_parts Try.info3
  go_enter Try.func18, Try.ntmps18
  go_wp2
  go_loopw [2, 3, 4, 5] (fun s2 s3 s4 i wr => ∃ (r : Nat) (p T : Nat), r ≤ 8 ∧ i = .int .i64 r ∧ Gr w.heap.size w wr ∧ T ≤ 600000 ∧ (r = 0 → s4 = .int .i64 (-1)) ∧
     (0 < r → s2 = .int .i64 p ∧ s4 = .int .i64 T ∧ p = (bst (ordCost l) (r - 1)).1 ∧ T = (bst (ordCost l) (r - 1)).2 ∧ Rd w.heap.size wr.heap.size wr .i64 s3 (ordPars l p))) (fun _ _ _ i _ => 8 - (intOf i).toNat)
  case atStart => exact ⟨0, 0, 0, by omega, rfl, Gr.refl w, by omega, fun _ => rfl, by omega⟩
  case round =>
    obtain ⟨r, p, T, hr, rfl, hgr, hT, hb0, hbest⟩ := hrel
    by_cases h8 : r = 8
    · subst h8
      obtain ⟨rfl, rfl, e1, e2, hrd⟩ := hbest (by omega)
      have Hrd := hidden hrd
      have He1 := hidden e1
      have He2 := hidden e2
      clear hbest hrd e1 e2 hb0
      go_wp2
      have e1 : p = (bst (ordCost l) 7).1 := He1.out
      have e2 : T = (bst (ordCost l) 7).2 := He2.out
      go_ret3
      rw [← e1, ← e2]
      exact ⟨_, rfl, Hrd.out, hgr.of⟩
    · have HP := hidden (fun w => partLenM_any l.length r (by omega) (by omega) w)
      have hz1' := plen_pos l.length r
      have hz2' := plen_bd l.length r (by omega)
      obtain ⟨sz, hsz⟩ : ∃ sz, plen l.length r = sz := ⟨_, rfl⟩
      rw [hsz] at HP hz1' hz2'
      have Hsz := hidden hsz
      have Hb := hidden hbest
      have Hb0 := hidden hb0
      clear hsz hbest hb0
      go_wp2_with (go_at_call 30; refine (HP.out _).mono ?_; rintro e wc ⟨rfl, rfl⟩)
      go_loopw [7, 8] (fun v i wi => ∃ (m : Nat) (P1 : List Nat) (qa : Option Addr) (qn qc : Nat), m ≤ 10001 ∧ i = .int .i64 m ∧ v = .slice qa qn qc ∧ Below wc.heap.size wc wi ∧ wc.heap.size ≤ wi.heap.size ∧ 
          wi.ownsRow wc.heap.size 3 1 (.slice qa qn qc) P1.length (P1.map fun (n : Nat) => Value.int .i64 (n : Int)) ∧ pars sz l.length l = P1 ++ pars sz l.length (l.drop m) ∧ P1.length ≤ l.length ∧ P1.length ≤ m) (fun _ i _ => l.length - (intOf i).toNat)
      case atStart => exact ⟨0, [], none, 0, 0, by omega, rfl, rfl, Below.refl _ _, Nat.le_refl _, World.ownsRow_nil _ _ _ _, by simp, by simp, by simp⟩
      case round =>
        obtain ⟨m, P1, qa, qn, qc, hm, rfl, rfl, hb, hlt, hown, hP, hPl, hPm⟩ := hrel
        have hgr' : Gr w.heap.size w wr := ⟨hgr.1.trans (hb.mono hgr.2), by have := hgr.2; omega⟩
        have HO := hidden hown
        by_cases hml : m < l.length
        · have hne : l ≠ [] := by intro e; rw [e] at hml; simp at hml
          obtain ⟨rfl, hbw⟩ := HA.out hne
          have hrow : Row64 wr b (o + m) ((l.drop m).take sz) := ((HL.out.below hgr'.1 hbw).drop m).take sz
          have hdne : l.drop m ≠ [] := by intro e; have := List.length_pos_iff.2 hne; have h2 : (l.drop m).length = 0 := by rw [e]; rfl
                                          simp at h2; omega
          have e1 := pars_step sz hz1' (l.drop m) hdne l.length (by simp)
          rw [List.drop_drop] at e1
          have HP1 : pars sz l.length l = (P1 ++ [(bst (cst ((l.drop m).take sz)) 40).1]) ++ pars sz l.length (l.drop (m + sz)) := by rw [hP, e1]; simp
          have HP1 := hidden HP1
          have hq : ((l.drop m).take sz).length = min (m + sz) l.length - m := by simp; omega
          have b1 := (bst_val (cst ((l.drop m).take sz)) 40).2
          have Hrow := hidden hrow
          generalize (l.drop m).take sz = ch at *
          obtain ⟨e, he⟩ : ∃ e, min (m + sz) l.length = e := ⟨_, rfl⟩
          rw [he] at hq
          have he1 : min ((m : Int) + (sz : Int)) (l.length : Int) = (e : Int) := by omega
          have he2 : e - m = ch.length := hq.symm
          have he3 : m ≤ e := by omega
          have he4 : e ≤ l.length := by omega
          have hcm : ¬ c = m := by omega
          clear he hq e1 hdne hP hown hrow hne
          go_wp2
          go_loop [10, 11, 12] (fun s10 s11 s12 => ∃ k : Nat, k ≤ 41 ∧ s12 = .int .i64 k ∧ (k = 0 → s10 = .int .i64 (-1)) ∧ (0 < k → s10 = .int .i64 (bst (cst ch) (k - 1)).1 ∧ s11 = .int .i64 (bst (cst ch) (k - 1)).2)) (fun _ _ i => 41 - (intOf i).toNat)
          case atStart => exact ⟨0, by omega, rfl, fun _ => rfl, by omega⟩
          case round =>
            obtain ⟨k, hk, rfl, hp0, hp1⟩ := hrel
            by_cases h41 : k = 41
            · subst h41
              obtain ⟨rfl, rfl⟩ := hp1 (by omega)
              have e40 : bst (cst ch) (41 - 1) = bst (cst ch) 40 := rfl
              rw [e40]
              clear hp0 hp1 e40
              obtain ⟨⟨p8, T8⟩, hD⟩ : ∃ D, bst (cst ch) 40 = D := ⟨_, rfl⟩
              rw [hD] at HP1 b1 ⊢
              simp only at HP1 b1 ⊢
              clear hD
              go_wp2_with (at_builtin; refine wpList_append_own _ rfl (.tmp 66) (.tmp 68) 55 rfl wc.heap.size 3 i0 (.int .i64 0) 1 8 Try.underlying55 hi hz0 hz1 hz2 rfl (by decide) (.slice qa qn qc) P1.length _ (by simp [Act.eval]) (HO.out.alloc _) ⟨wr.heap.size, 0, none⟩ 1 1 [.int .i64 p8] (by simp [Act.eval]) rfl (by intro j u hj; rcases j with _ | j <;> simp at hj; subst hj; simp [Addr.add]) (by intro u hu; simp at hu; subst hu; rfl) (by unfold maxLen; omega) (by omega) (by simp; omega) ?_)
              intro v' w1 hown' hgrow _
              obtain ⟨qa', qn', qc', rfl⟩ := own_slice hown'
              have hb1 : Below wc.heap.size wc w1 := (hb.alloc (by omega) _).grown hgrow (by simp; omega) (fun k hk => by have := ownBlock_ge HO.out k hk; omega)
              have hlt1 : wc.heap.size ≤ w1.heap.size := by have := hgrow.size; simp at this; omega
              have HO' := hidden hown'
              clear hown' hgrow
              go_wp2
              refine ⟨⟨m + sz, P1 ++ [p8], qa', qn', qc', by omega, by go_num, rfl, hb1, hlt1, (by simpa using HO'.out), HP1.out, by simp; omega, by simp; omega⟩, by simp [intOf]; omega⟩
            · have hk41 : k ≤ 40 := by omega
              go_wp2
              go_loop [13, 47] (fun t i => ∃ j : Nat, j ≤ ch.length ∧ t = .int .i64 (cst (ch.take j) k) ∧ i = .int .i64 j) (fun _ i => ch.length - (intOf i).toNat)
              case atStart => exact ⟨0, by omega, by rw [List.take_zero, cst_nil]; rfl, rfl⟩
              case round =>
                obtain ⟨j, hj, rfl, rfl⟩ := hrel
                by_cases h2 : j < ch.length
                · have c1 := Hrow.out.2 j h2
                  have c2 := Hrow.out.1 ch[j] (List.getElem_mem h2)
                  have HS : cst (ch.take (j + 1)) k = cst (ch.take j) k + rl ch[j] k := by rw [take_snoc ch j h2, cst_append, cst_cons, cst_nil]; simp
                  have HS := hidden HS
                  have c3 := cst_le (ch.take j) k (by omega)
                  have c4 : (ch.take j).length ≤ 5000 := by simp; omega
                  have c5 : cst (ch.take j) k ≤ 480000 := by omega
                  obtain ⟨v, hv⟩ : ∃ v, ch[j] = v := ⟨_, rfl⟩
                  rw [hv] at c1 c2 HS
                  have c6 := rl_le v k (by omega)
                  have HR := hidden (fun w => riceLen_any v k c2 (by omega) w)
                  generalize cst (ch.take j) k = T1 at *
                  clear c3 c4 hv
                  go_wp2_with (go_at_call 31; refine (HR.out _).mono ?_; rintro r w' ⟨rfl, rfl⟩)
                  go_round
                  case rel => exact ⟨j + 1, by omega, by rw [HS.out]; go_num, by go_num⟩
                  case measure => simp [intOf]; omega
                · obtain rfl : j = ch.length := by omega
                  have c3 := cst_le ch k (by omega)
                  have HT : cst (ch.take ch.length) k = cst ch k := by rw [List.take_length]
                  rw [HT]
                  clear HT
                  rcases Nat.eq_zero_or_pos k with rfl | h0
                  · obtain rfl := hp0 rfl
                    clear hp0 hp1
                    go_wp2
                    go_round
                    case rel => exact ⟨1, by omega, rfl, by omega, fun _ => (by rw [show 1 - 1 = 0 from rfl, bst_zero]; exact ⟨rfl, rfl⟩)⟩
                    case measure => simp [intOf]
                  · obtain ⟨rfl, rfl⟩ := hp1 h0
                    obtain ⟨k', rfl⟩ : ∃ k', k = k' + 1 := ⟨k - 1, by omega⟩
                    have HB := hidden (bst_succ (cst ch) k')
                    have b1 := bst_val (cst ch) k'
                    have b2 := cst_le ch (bst (cst ch) k').1 (by omega)
                    rw [b1.1] at b2
                    simp only [Nat.add_sub_cancel]
                    clear hp0 hp1
                    generalize hC : cst ch (k' + 1) = C at *
                    generalize hD : bst (cst ch) k' = D at *
                    obtain ⟨d1, d2⟩ := D
                    simp only at b1 b2
                    clear b1
                    by_cases h5 : C < d2
                    · go_wp2
                      go_round
                      case rel => exact ⟨k' + 2, by omega, by go_num, by omega, fun _ => (by rw [show k' + 2 - 1 = k' + 1 by omega, HB.out, if_pos h5]; exact ⟨rfl, rfl⟩)⟩
                      case measure => simp [intOf]; omega
                    · go_wp2
                      go_round
                      case rel => exact ⟨k' + 2, by omega, by go_num, by omega, fun _ => (by rw [show k' + 2 - 1 = k' + 1 by omega, HB.out, if_neg (by omega)]; exact ⟨rfl, rfl⟩)⟩
                      case measure => simp [intOf]; omega
        · have hdn : l.drop m = [] := List.drop_eq_nil_of_le (by omega)
          rw [hdn, pars_nil, List.append_nil] at hP
          have HR1 : ordPars l r = P1 := by unfold ordPars; rw [Hsz.out]; exact hP
          have hcst := costFrom_ord l r
          rw [HR1, Hsz.out] at hcst
          have hOC := ordCost_le l r
          obtain ⟨OC, hOC'⟩ : ∃ OC, ordCost l r = OC := ⟨_, rfl⟩
          rw [hOC'] at hcst hOC
          have hrd : Rd wc.heap.size wr.heap.size wr .i64 (.slice qa qn qc) P1 := Rd.own hown
          have Hrd := hidden hrd
          obtain ⟨pa, pc, hpv, hpc, hprow⟩ := hrd
          obtain ⟨rfl, rfl, rfl⟩ : qa = pa ∧ qn = P1.length ∧ qc = pc := by simpa using hpv
          have HCO : Calls Try.prog 19 #[.slice a l.length c, .int .i64 r, .slice qa P1.length qc] wr fun e w' => e = .returned (.int .i64 OC) ∧ w' = wr := by
            obtain ⟨pb, hpb1, hpb2⟩ : ∃ pb, (P1 ≠ [] → qa = some ⟨pb, 0, none⟩) ∧ ∀ j (h : j < P1.length), wr.cell? ⟨pb, 0 + j, none⟩ = some (.int .i64 (P1[j] : Nat)) := by
              by_cases hp : P1 = []
              · exact ⟨0, fun h => absurd hp h, fun j h => by rw [hp] at h; simp at h⟩
              · obtain ⟨g, g1, _, _, g3⟩ := hprow hp
                exact ⟨g, fun _ => g1, fun j h => by rw [Nat.zero_add]; exact g3 j h⟩
            have := costOf_any a b o c l wr (fun h => (HA.out h).1) (by
              by_cases hl0 : l = []
              · subst hl0; exact ⟨fun v hv => by simp at hv, fun j hj => by simp at hj⟩
              · exact HL.out.below hgr'.1 (HA.out hl0).2) (by omega) r (by omega) qa pb 0 qc P1 hpb1 hpb2 (by rw [← hP]; exact pars_le _ _ _) (by rw [Hsz.out, ← hP]; exact fun j hj => pars_idx sz hz1' l j hj) (by omega)
            rw [Hsz.out, hcst] at this
            exact this
          have HC := hidden HCO
          have HR := hidden HR1
          have HR2 := hidden hOC'
          have HB := bst_succ (ordCost l) (r - 1)
          clear hP hcst hOC' hprow hpv HO hown hdn HCO HR1
          rcases Nat.eq_zero_or_pos r with rfl | h0
          · obtain rfl := Hb0.out rfl
            clear HB Hb Hb0
            go_wp2_with (go_at_call 19; refine HC.out.mono ?_; rintro e w' ⟨rfl, rfl⟩)
            refine ⟨⟨1, 0, OC, by omega, rfl, hgr', by omega, by omega, fun _ => ⟨rfl, rfl, by rw [show 1 - 1 = 0 from rfl, bst_zero], by rw [show 1 - 1 = 0 from rfl, bst_zero]; exact HR2.out.symm, ?_⟩⟩, by simp [intOf]⟩
            rw [HR.out]
            exact Hrd.out.mono hgr.2 (Nat.le_refl _)
          · obtain ⟨rfl, rfl, g1, g2, g3⟩ := Hb.out h0
            have hbr : bst (ordCost l) (r - 1) = (p, T) := by rw [g1, g2]
            rw [show r - 1 + 1 = r by omega, HR2.out, hbr] at HB
            simp only at HB
            have HB' := hidden HB
            have Hg3 := hidden g3
            clear g1 g2 g3 HB Hb Hb0 hbr
            by_cases hlow : OC < T
            · go_wp2_with (go_at_call 19; refine HC.out.mono ?_; rintro e w' ⟨rfl, rfl⟩)
              refine ⟨⟨r + 1, r, OC, by omega, by go_num, hgr', by omega, by omega, fun _ => ⟨rfl, rfl, by rw [Nat.add_sub_cancel, HB'.out, if_pos hlow], by rw [Nat.add_sub_cancel, HB'.out, if_pos hlow], ?_⟩⟩, by simp [intOf]; omega⟩
              rw [HR.out]
              exact Hrd.out.mono hgr.2 (Nat.le_refl _)
            · go_wp2_with (go_at_call 19; refine HC.out.mono ?_; rintro e w' ⟨rfl, rfl⟩)
              refine ⟨⟨r + 1, p, T, by omega, by go_num, hgr', hT, by omega, fun _ => ⟨rfl, rfl, by rw [Nat.add_sub_cancel, HB'.out, if_neg (by omega)], by rw [Nat.add_sub_cancel, HB'.out, if_neg (by omega)], ?_⟩⟩, by simp [intOf]; omega⟩
              exact (Hg3.out.below hb).mono (Nat.le_refl _) hlt
end Go.Proofs.Qxb6500679a
