import Derived.Test.Qxb6500679aPick
namespace Go.Proofs.Qxb6500679a
open Go.RowKit Go.BigFrame
set_option linter.unusedSimpArgs false
attribute [local go_sem] ext_cell_if ext_frozen_if alloc_cell_if alloc_frozen_if ext_size ext_ext
theorem Try.info68 : (Try.prog.info? 68).map (fun i => (i.zero, i.size, i.bytes)) = some (some (.agg #[.slice none 0 0, .int .i64 0]), 2, 32) := by kernel_rfl
/-- The stages: each with a row of coefficients of its own, below H. -/
def Sg (A H : Nat) (w : World) (ys : List Value) (k : Nat) : Prop :=
  ∀ i, i < k → ∃ (g m c : Nat) (en : Int) (xs : List Value), ys[i * 2]? = some (.slice (some ⟨g, 0, none⟩) m c) ∧ ys[i * 2 + 1]? = some (.int .i64 en) ∧ m ≤ 40 ∧ g < H ∧ w.ownsRow A 2 1 (.slice (some ⟨g, 0, none⟩) m c) m xs ∧ ∀ u ∈ xs, I64 u
theorem own_keep {A g m c : Nat} {w w' : World} {xs : List Value} (h : w.ownsRow A 2 1 (.slice (some ⟨g, 0, none⟩) m c) m xs) (hk : ∀ cur, w.heap[g]? = some (.cells cur 2) → w'.heap[g]? = w.heap[g]?) : w'.ownsRow A 2 1 (.slice (some ⟨g, 0, none⟩) m c) m xs := by
  refine ⟨h.1, ?_⟩
  rcases h.2 with ⟨h', _⟩ | ⟨g', cap', cur, h', hb, hg, rest⟩
  · simp at h'
  · simp only [Value.slice.injEq, Option.some.injEq, Addr.mk.injEq, and_true, true_and] at h'
    obtain ⟨rfl, rfl⟩ := h'
    exact .inr ⟨g, c, cur, rfl, hb, by rw [hk cur hg]; exact hg, rest⟩
theorem own_move {A e n size : Nat} {w w' : World} {v : Value} {xs : List Value} (h : w.ownsRow A e size v n xs) (hk : ∀ g, v.ownBlock = some g → w'.heap[g]? = w.heap[g]?) : w'.ownsRow A e size v n xs := by
  refine ⟨h.1, ?_⟩
  rcases h.2 with hn | ⟨g, cap, cur, rfl, hb, hgg, rest⟩
  · exact .inl hn
  · exact .inr ⟨g, cap, cur, rfl, hb, by rw [hk g rfl]; exact hgg, rest⟩
theorem Sg.keep {A H k : Nat} {w w' : World} {ys : List Value} (h : Sg A H w ys k) (hk : ∀ g cur, g < H → w.heap[g]? = some (.cells cur 2) → w'.heap[g]? = w.heap[g]?) : Sg A H w' ys k := by
  intro i hi
  obtain ⟨g, m, c, en, xs, h1, h2, h3, h4, h5, h6⟩ := h i hi
  exact ⟨g, m, c, en, xs, h1, h2, h3, h4, own_keep h5 (fun cur hc => hk g cur h4 hc), h6⟩
theorem Sg.mono {A H H' k : Nat} {w : World} {ys : List Value} (h : Sg A H w ys k) (hH : H ≤ H') : Sg A H' w ys k := by
  intro i hi
  obtain ⟨g, m, c, en, xs, h1, h2, h3, h4, h5, h6⟩ := h i hi
  exact ⟨g, m, c, en, xs, h1, h2, h3, by omega, h5, h6⟩
theorem own_type {A e n size : Nat} {w : World} {v : Value} {xs : List Value} (h : w.ownsRow A e size v n xs) : ∀ g cur, v.ownBlock = some g → w.heap[g]? = some (.cells cur 2) → e = 2 := by
  intro g cur hv hg
  rcases h.2 with ⟨rfl, _⟩ | ⟨g', cap', cur', rfl, hb, hg', rest⟩
  · simp [Value.ownBlock] at hv
  · simp [Value.ownBlock] at hv
    subst hv
    rw [hg] at hg'
    simp at hg'
    exact hg'.2.symm
theorem tdiv_bd (y d : Int) (hd : 0 < d) (hy : -9223372036854775808 ≤ y ∧ y ≤ 9223372036854775807) : -9223372036854775808 ≤ y.tdiv d ∧ y.tdiv d ≤ 9223372036854775807 := by
  rcases Int.lt_or_le y 0 with h | h
  · have e : y.tdiv d = -((-y).tdiv d) := by rw [Int.neg_tdiv]; simp
    rw [e, Int.tdiv_eq_ediv_of_nonneg (by omega)]
    have h1 := Int.ediv_le_self (b := d) (show 0 ≤ -y by omega)
    have h2 := Int.ediv_nonneg (show 0 ≤ -y by omega) (show 0 ≤ d by omega)
    omega
  · rw [Int.tdiv_eq_ediv_of_nonneg h]
    exact ediv_bd y d hd hy
set_option maxRecDepth 100000 in
set_option maxHeartbeats 1000000 in
theorem levinson_any (r : Value) (n : Nat) (w : World) (hr : Ry 0 w.heap.size w I64 r n) (hn0 : 0 < n) (hn : n ≤ 40) :
    Calls Try.prog 25 #[r] w fun e w' => ∃ (V : Value) (k : Nat) (ys : List Value), e = .returned V ∧ k ≤ 40 ∧ w'.ownsRow w.heap.size 68 2 V k ys ∧ Sg w.heap.size w'.heap.size w' ys k ∧ ∃ x, w' = ext w x := by
  obtain ⟨ra, rc, rfl, hrc, hrr⟩ := hr
  obtain ⟨gr, rfl, _, hgrl, hc⟩ := hrr hn0
  have HR : Hid (∀ j, j < n → ∃ z : Int, w.cell? ⟨gr, j, none⟩ = some (.int .i64 z) ∧ (-9223372036854775808 ≤ z ∧ z ≤ 9223372036854775807)) := fun j hj => by
    obtain ⟨u, hu, z, rfl, h1, h2⟩ := hc j hj
    exact ⟨z, hu, h1, h2⟩
  clear hrr hc
  obtain ⟨i2, hi2, hz20, hz21, hz22⟩ := info_parts Try.info2
  obtain ⟨i6, hi6, hz60, hz61, hz62⟩ := info_parts Try.info68
  obtain ⟨e0, he0, hb0⟩ := HR.out 0 hn0
  go_enter Try.func25, Try.ntmps25
  go_wp2
  go_loopw [3, 4, 5, 6] (fun s3 s4 s5 s6 wi => ∃ (o : Nat) (qa aa : Option Addr) (qn qc ac : Nat) (en : Int) (ys xa : List Value), 1 ≤ o ∧ o ≤ n ∧ s6 = .int .i64 o ∧ s5 = .int .i64 en ∧ (-9223372036854775808 ≤ en ∧ en ≤ 9223372036854775807) ∧ s3 = .slice qa qn qc ∧ s4 = .slice aa (o - 1) ac ∧
      Gr w.heap.size w wi ∧ wi.ownsRow w.heap.size 68 2 (.slice qa qn qc) (o - 1) ys ∧ Sg w.heap.size wi.heap.size wi ys (o - 1) ∧ wi.ownsRow w.heap.size 2 1 (.slice aa (o - 1) ac) (o - 1) xa ∧ ∀ u ∈ xa, I64 u) (fun _ _ _ s6 _ => n - (intOf s6).toNat)
  case atStart => exact ⟨1, none, none, 0, 0, 0, e0, [], [], by omega, hn0, rfl, rfl, hb0, rfl, rfl, Gr.refl w, World.ownsRow_nil _ _ _ _, fun i hi => by omega, World.ownsRow_nil _ _ _ _, by simp⟩
  case round =>
    clear he0
    obtain ⟨o, qa, aa, qn, qc, ac, en, ys, xa, ho1, hon, rfl, rfl, hen, rfl, rfl, hgr, hq, hsg, hoa, hxa⟩ := hrel
    have HQ := hidden hq
    have HSG := hidden hsg
    have HOA := hidden hoa
    have HXA := hidden hxa
    clear hq hsg hoa hxa
    by_cases hlt : o < n
    case neg =>
      go_wp2
      go_ret
      first | exact ⟨_, o - 1, ys, rfl, by omega, HQ.out, HSG.out, hgr.of⟩ | exact ⟨_, rfl, o - 1, by omega, ys, HQ.out, HSG.out, hgr.of⟩
    by_cases hep : 0 < en
    case neg =>
      go_wp2
      go_ret
      first | exact ⟨_, o - 1, ys, rfl, by omega, HQ.out, HSG.out, hgr.of⟩ | exact ⟨_, rfl, o - 1, by omega, ys, HQ.out, HSG.out, hgr.of⟩
    have rcell : ∀ j, j < n → ∃ z : Int, wr.cell? ⟨gr, j, none⟩ = some (.int .i64 z) ∧ (-9223372036854775808 ≤ z ∧ z ≤ 9223372036854775807) := fun j hj => by
      obtain ⟨z, h1, h2⟩ := HR.out j hj
      exact ⟨z, by rw [hgr.1.cell (p := ⟨gr, j, none⟩) hgrl]; exact h1, h2⟩
    have RC := hidden rcell
    obtain ⟨zo, hzo, _⟩ := rcell o hlt
    clear rcell
    go_wp2
    have hw0 := wrap64_bd (zo * 16777216)
    generalize wrap64 (zo * 16777216) = acc0 at *
    obtain ⟨p, hp⟩ : ∃ p, o - 1 = p := ⟨_, rfl⟩
    rw [hp] at HQ HSG HOA ⊢
    have hop : (o : Int) - 1 = (p : Int) := by omega
    have acell : ∀ j, j < p → ∃ (ga : Nat) (z : Int), aa = some ⟨ga, 0, none⟩ ∧ ga < wr.heap.size ∧ wr.cell? ⟨ga, j, none⟩ = some (.int .i64 z) := fun j hj => by
      obtain ⟨_, _, h1, _, h3⟩ := Ry.own HOA.out HXA.out
      obtain ⟨rfl, rfl⟩ : aa = _ ∧ ac = _ := by simpa using h1
      obtain ⟨ga, h4, _, h5, h6⟩ := h3 (by omega)
      obtain ⟨u, hu, z, rfl, _⟩ := h6 j hj
      exact ⟨ga, z, h4, h5, hu⟩
    have AC := hidden acell
    clear acell hzo hp
    go_loop [7, 33] (fun s i => ∃ (j : Nat) (y : Int), j ≤ p ∧ (-9223372036854775808 ≤ y ∧ y ≤ 9223372036854775807) ∧ s = .int .i64 y ∧ i = .int .i64 j) (fun _ i => p - (intOf i).toNat)
    case atStart => exact ⟨0, acc0, by omega, hw0, rfl, rfl⟩
    case round =>
      obtain ⟨j, y, hj, hy, rfl, rfl⟩ := hrel
      by_cases hjp : j < p
      · obtain ⟨ga, z, rfl, hga, hz⟩ := AC.out j hjp
        obtain ⟨z2, hz2, _⟩ := RC.out (p - j) (by omega)
        have e1 : (p : Int) - (j : Int) = ((p - j : Nat) : Int) := by omega
        go_wp2
        exact ⟨⟨j + 1, _, by omega, wrap64_bd _, rfl, by go_num⟩, by simp [intOf]; omega⟩
      · obtain rfl : j = p := by omega
        have hK1 := tdiv_bd y en hep hy
        obtain ⟨K, hK⟩ : ∃ K, y.tdiv en = K := ⟨_, rfl⟩
        rw [hK] at hK1
        by_cases hk1 : K ≤ -16777216
        · go_wp2
          go_ret
          first | exact ⟨_, j, ys, rfl, by omega, HQ.out, HSG.out, hgr.of⟩ | exact ⟨_, rfl, j, by omega, ys, HQ.out, HSG.out, hgr.of⟩
        by_cases hk2 : 16777216 ≤ K
        · go_wp2
          go_ret
          first | exact ⟨_, j, ys, rfl, by omega, HQ.out, HSG.out, hgr.of⟩ | exact ⟨_, rfl, j, by omega, ys, HQ.out, HSG.out, hgr.of⟩
        go_wp2_with (at_make; refine wpList_make_full _ rfl _ _ 35 rfl w.heap.size 2 i2 (.int .i64 0) 1 Try.underlying35 hi2 hz20 hz21 .i64 .i64 (o : Int) (o : Int) o rfl rfl rfl rfl (by rw [hz22]; omega) (by unfold maxLen; omega) hgr.2 ?_)
        intro w1 hown1 hgrow1
        clear hK
        obtain ⟨G, hG⟩ : ∃ G, wr.heap.size = G := ⟨_, rfl⟩
        rw [hG] at hown1 ⊢
        have hG1 : Gr w.heap.size w w1 := hgr.grown hgrow1 (by simp)
        have hkeep1 : ∀ g, g < G → w1.heap[g]? = wr.heap[g]? := fun g hg => hgrow1.block g (by omega) (by simp)
        have hGw : G < w1.heap.size := (hown1.lt G rfl).2
        obtain ⟨old, hold⟩ : ∃ old, w1.cell? ⟨G, j, none⟩ = some old := by
          rw [hown1.cellAt j (by omega)]
          exact ⟨_, List.getElem?_eq_getElem (by have := hown1.1; omega)⟩
        have hfr := hown1.frozenAt j
        have HO1 := hidden hown1
        clear hown1 hgrow1
        go_wp2
        have hs1 : (w1.setCell ⟨G, j, none⟩ (.int .i64 K)).ownsRow w.heap.size 2 1 (.slice (some ⟨G, 0, none⟩) o o) o _ := (HO1.out.stored j (.int .i64 K)).1
        refine wp_gen (fun W => Gr w.heap.size w W ∧ G < W.heap.size ∧ (∀ g, g < G → W.heap[g]? = wr.heap[g]?) ∧ ∃ xs, W.ownsRow w.heap.size 2 1 (.slice (some ⟨G, 0, none⟩) o o) o xs ∧ ∀ u ∈ xs, I64 u) ⟨hG1.setCell (by have := hgr.2; show w.heap.size ≤ G; omega) _, by rw [size_setCell]; exact hGw, fun g hg => by rw [blk_far (by omega)]; exact hkeep1 g hg, _, hs1, set_all (made_all _ I64 ⟨0, rfl, by decide, by decide⟩ o) ⟨K, rfl, by omega, by omega⟩ j⟩ ?_
        clear hs1 HO1 hold hfr hG1 hGw hkeep1
        clear w1
        rintro wa ⟨hG1, hGw, hkeep1, xs, hown1, hxs⟩
        obtain ⟨w5, rfl⟩ : ∃ w5, w5 = wr := ⟨_, rfl⟩
        have QB : Hid (∀ W : World, (∀ g, g < G → W.heap[g]? = w5.heap[g]?) → W.ownsRow w.heap.size 68 2 (.slice qa qn qc) j ys ∧ Sg w.heap.size G W ys j) := fun W hW => by
          exact ⟨own_move HQ.out fun g hg => hW g (by have := (HQ.out.lt g hg).2; omega), (HSG.out.mono (by omega)).keep fun g cur hg _ => hW g hg⟩
        go_loopw [68] (fun i wi => ∃ (t : Nat) (xs : List Value), t ≤ j ∧ i = .int .i64 t ∧ Gr w.heap.size w wi ∧ G < wi.heap.size ∧ (∀ g, g < G → wi.heap[g]? = w5.heap[g]?) ∧ wi.ownsRow w.heap.size 2 1 (.slice (some ⟨G, 0, none⟩) o o) o xs ∧ ∀ u ∈ xs, I64 u) (fun i _ => j - (intOf i).toNat)
        case atStart => exact ⟨0, xs, by omega, rfl, hG1, hGw, hkeep1, hown1, hxs⟩
        case round =>
          clear hG1 hGw hkeep1 hown1 hxs
          obtain ⟨t, xt, ht, rfl, hG1, hGw, hkeep1, hown1, hxs⟩ := hrel
          by_cases htj : t < j
          · obtain ⟨ga, z, rfl, hga, hz⟩ := AC.out t htj
            obtain ⟨_, z2, ega, _, hz2⟩ := AC.out (j - 1 - t) (by omega)
            obtain rfl : ga = _ := by simpa using ega
            have hz' : wr.cell? ⟨ga, t, none⟩ = some (.int .i64 z) := by rw [World.cell?_of_block (a := ⟨ga, t, none⟩) (hkeep1 ga (by omega))]; exact hz
            have hz2' : wr.cell? ⟨ga, j - 1 - t, none⟩ = some (.int .i64 z2) := by rw [World.cell?_of_block (a := ⟨ga, j - 1 - t, none⟩) (hkeep1 ga (by omega))]; exact hz2
            have e1 : (o : Int) - 2 - (t : Int) = ((j - 1 - t : Nat) : Int) := by omega
            obtain ⟨old, hold⟩ : ∃ old, wr.cell? ⟨G, t, none⟩ = some old := by
              rw [hown1.cellAt t (by omega)]
              exact ⟨_, List.getElem?_eq_getElem (by have := hown1.1; omega)⟩
            have hfr := hown1.frozenAt t
            have HO1 := hidden hown1
            have HX1 := hidden hxs
            clear hown1 hxs hz hz2 ega
            go_wp2_with fail
            go_region
            have hVb := wrap64_bd (z - wrap64 (K * z2) / 16777216)
            generalize wrap64 (z - wrap64 (K * z2) / 16777216) = Vn at *
            have hwG : w.heap.size ≤ G := by have := hgr.2; omega
            have hnew := World.cell?_setCell_same wr ⟨G, t, none⟩ (.int .i64 Vn) hold
            have hst := (HO1.out.stored t (.int .i64 Vn)).1
            have hk2 : ∀ g, g < G → (wr.setCell ⟨G, t, none⟩ (.int .i64 Vn)).heap[g]? = w5.heap[g]? := fun g hg => by rw [blk_far (by omega)]; exact hkeep1 g hg
            have hq2 := QB.out _ hk2
            have hG2 := hG1.setCell (p := ⟨G, t, none⟩) hwG (.int .i64 Vn)
            have hGs : G < (wr.setCell ⟨G, t, none⟩ (.int .i64 Vn)).heap.size := by rw [size_setCell]; exact hGw
            generalize wr.setCell ⟨G, t, none⟩ (.int .i64 Vn) = W2 at *
            have HQ2 := hidden hq2
            have HST := hidden hst
            have HK2 := hidden hk2
            clear hq2 hst hk2 hold hfr hz' hz2' HO1
            by_cases hv1 : Vn ≤ -536870912
            · go_wp2
              go_ret
              first | exact ⟨_, j, ys, rfl, by omega, HQ2.out.1, HQ2.out.2.mono (Nat.le_of_lt hGs), hG2.drew.of⟩ | exact ⟨_, rfl, j, by omega, ys, HQ2.out.1, HQ2.out.2.mono (Nat.le_of_lt hGs), hG2.drew.of⟩
            by_cases hv2 : 536870912 ≤ Vn
            · go_wp2
              go_ret
              first | exact ⟨_, j, ys, rfl, by omega, HQ2.out.1, HQ2.out.2.mono (Nat.le_of_lt hGs), hG2.drew.of⟩ | exact ⟨_, rfl, j, by omega, ys, HQ2.out.1, HQ2.out.2.mono (Nat.le_of_lt hGs), hG2.drew.of⟩
            go_wp2
            exact ⟨⟨t + 1, _, by omega, by go_num, hG2.drew, hGs, HK2.out, HST.out, set_all HX1.out ⟨_, rfl, hVb⟩ t⟩, by simp [intOf]; omega⟩
          · obtain ⟨hqa, hqs⟩ := QB.out wr hkeep1
            have HO1 := hidden hown1
            have HX1 := hidden hxs
            have HQ1 := hidden hqa
            have HS1 := hidden hqs
            clear hown1 hxs hqa hqs
            obtain ⟨E, hE⟩ : ∃ E, wrap64 (en - wrap64 (wrap64 (K * K) / 16777216 * en) / 16777216) = E := ⟨_, rfl⟩
            have hEb := wrap64_bd (en - wrap64 (wrap64 (K * K) / 16777216 * en) / 16777216)
            rw [hE] at hEb
            go_wp2_with (at_builtin; refine wpList_append_own _ rfl (.tmp 113) (.tmp 117) 64 rfl w.heap.size 68 i6 (.agg #[.slice none 0 0, .int .i64 0]) 2 32 Try.underlying64 hi6 hz60 hz61 hz62 rfl (by decide) (.slice qa qn qc) j ys (by simp [Act.eval]) (HQ1.out.alloc _) ⟨wr.heap.size, 0, none⟩ 1 1 [.slice (some ⟨G, 0, none⟩) o o, .int .i64 E] (by simp [Act.eval]) rfl (by intro j u hj; rcases j with _ | _ | j <;> simp at hj <;> subst hj <;> simp [Addr.add]) (by intro u hu; simp at hu; rcases hu with rfl | rfl <;> rfl) (by unfold maxLen; omega) (by omega) (by have := hG1.2; simp; omega) ?_)
            intro v' w1 hown' hgrow _
            obtain ⟨qa', qn', qc', rfl⟩ := own_slice hown'
            have hgr1 : Gr w.heap.size w w1 := (hG1.alloc _).grown hgrow (fun k hk => ownBlock_ge HQ1.out k hk)
            have hkp : ∀ (g : Nat) (cur : Array Value), wr.heap[g]? = some (Obj.cells cur 2) → w1.heap[g]? = wr.heap[g]? := fun g cur hc => by
              have hgl := lt_of_cells hc
              rw [hgrow.block g (by simp; omega) (fun e => by have := own_type HQ1.out g cur e.symm hc; omega)]
              exact Below.heap_alloc _ _ _ hgl
            have hsz : wr.heap.size ≤ w1.heap.size := by have := hgrow.size; simp at this; omega
            have HO' := hidden hown'
            have HKP := hidden hkp
            clear hown' hgrow hkp hE
            go_wp2
            refine ⟨⟨o + 1, qa', some ⟨G, 0, none⟩, qn', qc', o, E, ys ++ [.slice (some ⟨G, 0, none⟩) o o, .int .i64 E], xt, by omega, by omega, by go_num, rfl, hEb, rfl, rfl, hgr1, ?_, ?_, ?_, HX1.out⟩, by simp [intOf]; omega⟩
            · rw [show o + 1 - 1 = j + 1 by omega]; exact HO'.out
            · rw [show o + 1 - 1 = j + 1 by omega]
              intro i hi
              have hyl : ys.length = j * 2 := HQ1.out.1
              rcases Nat.lt_or_ge i j with h | h
              · obtain ⟨g, m, c, en', xs', h1, h2, h3, h4, h5, h6⟩ := HS1.out i h
                refine ⟨g, m, c, en', xs', ?_, ?_, h3, by omega, own_keep h5 (fun cur hc => HKP.out g cur hc), h6⟩
                · rw [List.getElem?_append_left (by omega)]; exact h1
                · rw [List.getElem?_append_left (by omega)]; exact h2
              · obtain rfl : i = j := by omega
                refine ⟨G, o, o, E, xt, ?_, ?_, by omega, by omega, own_keep HO1.out (fun cur hc => HKP.out G cur hc), HX1.out⟩
                · rw [List.getElem?_append_right (by omega), hyl]; simp
                · rw [List.getElem?_append_right (by omega), hyl]; simp
            · exact own_keep HO1.out (fun cur hc => HKP.out G cur hc)
end Go.Proofs.Qxb6500679a
