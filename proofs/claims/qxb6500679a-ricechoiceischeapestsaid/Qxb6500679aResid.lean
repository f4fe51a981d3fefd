import Derived.Test.Qxb6500679aRes
import Derived.Deep.RegionHeld3
import Derived.Deep.RegionLaw
namespace Go.Proofs.Qxb6500679a
open Go.RowKit Go.BigFrame
set_option linter.unusedSimpArgs false
attribute [local go_sem] ext_cell_if ext_frozen_if alloc_cell_if alloc_frozen_if ext_size ext_ext
theorem step_append_own {P : Program} {ops : Array Oper} {o : Oper} {a : Act} {w : World} {K : Act → World → Prop} {Q : Exit → Act → World → Prop} {E : Prop} (hg : o.guard = none) (s x : Operand) (t : TypeId)
    (ho : o.op = .call { callee := .builtin .append, args := #[s, x], argTypes := #[t, t] })
    (base : Nat) (e : TypeId) (i : TypeInfo) (z : Value) (size bytes : Nat) (ht : P.underlying t = some (.slice e)) (hi : P.info? e = some i) (hz : i.zero = some z)
    (hsize : i.size = size) (hby : i.bytes = bytes) (hzs : z.cells.size = size) (hsz : 0 < size)
    (v : Value) (n : Nat) (xs : List Value) (hs : a.eval s = v) (hown : w.ownsRow base e size v n xs)
    (ad : Addr) (m c : Nat) (news : List Value) (hx : a.eval x = .slice (some ad) m c) (hl : news.length = m * size) (hnews : ∀ j u, news[j]? = some u → w.cell? (ad.add j) = some u) (h1 : ∀ u ∈ news, u.oneCell' = true)
    (h63 : n + m ≤ maxLen) (hbytes : (n + m) * bytes ≤ 140737488355328) (hbase : base ≤ w.heap.size)
    (h : ∀ v' w', w'.ownsRow base e size v' (n + m) (xs ++ news) → w.grownBy w' v.ownBlock → (v' = .slice none 0 0 ↔ v = .slice none 0 0 ∧ m = 0) → K (a.put o.dst v') w') :
    if Region.wanted o (yielded ops a.tmps) = true then Oper.wp P o a w K Q else E := by
  rw [if_pos (by simp [Region.wanted, hg])]
  exact wp_append_own w s x t ho base e i z size bytes ht hi hz hsize hby hzs hsz v n xs hs hown ad m c news hx hl hnews h1 h63 hbytes hbase h
theorem i64_bd (z : Int) : -9223372036854775808 ≤ IntKind.i64.wrap z ∧ IntKind.i64.wrap z ≤ 9223372036854775807 := by rw [IntKind.wrap_i64]; omega
theorem grown_ext (w : World) (x : Nat → Array Obj × Nat) (row : Option Nat) : w.grownBy (ext w x) row := ⟨rfl, rfl, rfl, by rw [ext_size]; omega, fun k hk _ => (ext_below w x).block k hk⟩
theorem own_ext {w : World} {base : Nat} {e : TypeId} {size : Nat} {v : Value} {n : Nat} {xs : List Value} (h : w.ownsRow base e size v n xs) (x : Nat → Array Obj × Nat) : (ext w x).ownsRow base e size v n xs := h.kept (grown_ext w x none) (by cases hv : v.ownBlock <;> simp)
theorem own_ne {w : World} {base : Nat} {e : TypeId} {size : Nat} {v : Value} {n : Nat} {xs : List Value} (h : w.ownsRow base e size v n xs) {g : Nat} (hg : g < base) : some g ≠ v.ownBlock := fun e' => by have := ownBlock_ge h g e'.symm; omega
theorem app_cell {wr w1 : World} {x : Nat → Array Obj × Nat} {ob : Obj} {row : Option Nat} (g o : Nat) (hne : some g ≠ row) (hgrow : ((ext wr.drew x).alloc ob).grownBy w1 row) (hg : g < wr.heap.size) {u : Value} (h : wr.cell? ⟨g, o, none⟩ = some u) : w1.cell? ⟨g, o, none⟩ = some u := by
  refine hgrow.cell (a := ⟨g, o, none⟩) ?_ hne
  rw [World.cell?_alloc_past _ g o (by rw [ext_size]; exact Nat.lt_of_lt_of_le hg (Nat.le_add_right _ _)), ext_cell _ _ _ _ (show g < wr.drew.heap.size from hg)]
  exact h
set_option maxHeartbeats 1000000 in
theorem residual_any (sh : Int) (cs bl : Value) (cn bn : Nat) (w : World) (h0 : 0 ≤ sh) (hcs : Ry 0 w.heap.size w I16 cs cn) (hbl : Ry 0 w.heap.size w I32 bl bn) (hbn : bn ≤ 4999) :
    Calls Try.prog 10 #[.agg #[.int .u64 sh, cs], .slice none 0 0, bl] w fun e w' => ∃ V : Value, e = .returned V ∧ Ry 0 w'.heap.size w' I64 V bn ∧ ∃ x, w' = ext w x := by
  have HCS := hidden hcs
  have HBL := hidden hbl
  obtain ⟨ca, cc, rfl, hcc, _⟩ := hcs
  obtain ⟨ba, bc, rfl, hbc, hbr⟩ := hbl
  have HB := hidden hbr
  clear hbr
  obtain ⟨i0, hi, hz0, hz1, hz2⟩ := info_parts Try.info2
  obtain ⟨m, hm⟩ : ∃ m, min cn bn = m := ⟨_, rfl⟩
  have hm1 : min (cn : Int) (bn : Int) = (m : Int) := by omega
  have hm2 : m ≤ bn := by omega
  have hm3 : m = cn ∨ m = bn := by omega
  clear hm
  go_enter Try.func10, Try.ntmps10
  go_wp2
  obtain ⟨W0, hW0⟩ : ∃ W0, W0 = w.alloc (.cells #[.int .u64 sh, .slice ca cn cc] 37) := ⟨_, rfl⟩
  rw [← hW0]
  have hG0 : Gr w.heap.size w W0 := by rw [hW0]; exact (Gr.refl w).alloc _
  have hs0 : W0.heap.size = w.heap.size + 1 := by rw [hW0]; simp
  have hbox : W0.heap[w.heap.size]? = some (.cells #[.int .u64 sh, .slice ca cn cc] 37) := by rw [hW0]; exact heap_new _ _
  clear hW0
  go_loopw [1, 23] (fun v i wi => ∃ (j : Nat) (xs : List Value) (qa : Option Addr) (qn qc : Nat), j ≤ m ∧ i = .int .i64 j ∧ v = .slice qa qn qc ∧ Gr (w.heap.size + 1) W0 wi ∧ wi.ownsRow (w.heap.size + 1) 2 1 (.slice qa qn qc) j xs ∧ (∀ u ∈ xs, I64 u)) (fun _ i _ => m - (intOf i).toNat)
  case atStart => exact ⟨0, [], none, 0, 0, by omega, rfl, rfl, by have := Gr.refl W0; rwa [hs0] at this, World.ownsRow_nil _ _ _ _, by simp⟩
  case round =>
    obtain ⟨j, xs, qa, qn, qc, hj, rfl, rfl, hgr, hown, hxs⟩ := hrel
    have HO := hidden hown
    have HX := hidden hxs
    clear hown hxs
    by_cases hjm : j < m
    · obtain ⟨g, rfl, _, hg, hc⟩ := HB.out (by omega)
      obtain ⟨u, hu, z, rfl, hz1', hz2'⟩ := hc j (by omega)
      have hu' : wr.cell? ⟨g, j, none⟩ = some (.int .i32 z) := by rw [hgr.1.cell (p := ⟨g, j, none⟩) (by show g < _; omega), hG0.1.cell (p := ⟨g, j, none⟩) hg]; exact hu
      clear hu hc
      go_wp2_with (at_builtin; refine wpList_append_own _ rfl (.tmp 27) (.tmp 30) 35 rfl (w.heap.size + 1) 2 i0 (.int .i64 0) 1 8 Try.underlying35 hi hz0 hz1 hz2 rfl (by decide) (.slice qa qn qc) j _ (by simp [Act.eval]) (HO.out.alloc _) ⟨wr.heap.size, 0, none⟩ 1 1 [.int .i64 z] (by simp [Act.eval]) rfl (by intro j u hj; rcases j with _ | j <;> simp at hj; subst hj; simp [Addr.add]) (by intro u hu; simp at hu; subst hu; rfl) (by unfold maxLen; omega) (by omega) (by have := hgr.2; simp; omega) ?_)
      intro v' w1 hown' hgrow _
      obtain ⟨qa', qn', qc', rfl⟩ := own_slice hown'
      have hgr1 : Gr (w.heap.size + 1) W0 w1 := (hgr.alloc _).grown hgrow (fun k hk => ownBlock_ge HO.out k hk)
      have HO' := hidden hown'
      clear hown' hgrow
      go_wp2
      refine ⟨⟨j + 1, _, qa', qn', qc', by omega, by go_num, rfl, hgr1, HO'.out, ?_⟩, by simp [intOf]; omega⟩
      intro v hv
      rcases List.mem_append.1 hv with hv | hv
      · exact HX.out v hv
      · simp at hv; rw [hv]; exact ⟨z, rfl, by omega, by omega⟩
    · obtain rfl : j = m := by omega
      go_wp2
      refine wp_gen (fun W => Gr (w.heap.size + 1) W0 W ∧ W.ownsRow (w.heap.size + 1) 2 1 (.slice qa qn qc) j xs) ⟨hgr, HO.out⟩ ?_
      clear HO hgr wr
      rintro W ⟨hgr, hown⟩
      go_loopw [1, 10] (fun v i wi => ∃ (j' : Nat) (xs : List Value) (qa : Option Addr) (qn qc : Nat), j ≤ j' ∧ j' ≤ bn ∧ i = .int .i64 j' ∧ v = .slice qa qn qc ∧ Gr (w.heap.size + 1) W0 wi ∧ wi.ownsRow (w.heap.size + 1) 2 1 (.slice qa qn qc) j' xs ∧ (∀ u ∈ xs, I64 u)) (fun _ i _ => bn - (intOf i).toNat)
      case atStart => exact ⟨j, xs, qa, qn, qc, by omega, by omega, rfl, rfl, hgr, hown, HX.out⟩
      case round =>
        clear hgr hown HX
        obtain ⟨k, xs, qa, qn, qc, hjk, hk, rfl, rfl, hgr, hown, hxs⟩ := hrel
        have HO := hidden hown
        have HX := hidden hxs
        clear hown hxs
        by_cases hkb : k < bn
        · have hcnk : cn ≤ k := by omega
          have HBL' := HBL
          have HB' := HB
          obtain ⟨g, hga, _, hg, hc⟩ := HB.out (by omega)
          obtain ⟨u, hu, z, rfl, hz1', hz2'⟩ := hc k hkb
          have hu' : wr.cell? ⟨g, k, none⟩ = some (.int .i32 z) := by rw [hgr.1.cell (p := ⟨g, k, none⟩) (by show g < _; omega), hG0.1.cell (p := ⟨g, k, none⟩) hg]; exact hu
          have hbx : wr.heap[w.heap.size]? = some (.cells #[.int .u64 sh, .slice ca cn cc] 37) := by rw [hgr.1.block _ (by omega)]; exact hbox
          have x0 := cell_of_cells hbx 0
          have x1 := cell_of_cells hbx 1
          simp at x0 x1
          have hAT : ∀ W, Gr w.heap.size w W → Calls Try.prog 21 #[.agg #[.int .u64 sh, .slice ca cn cc], .slice ba bn bc, .int .i64 k] W fun e w' => ∃ y : Int, e = .returned (.int .i64 y) ∧ (-9223372036854775808 ≤ y ∧ y ≤ 9223372036854775807) ∧ ∃ x, w' = ext W x := fun W hW =>
            at_any sh _ _ cn bn k W h0 ((HCS.out.below hW.1).mono (Nat.le_refl _) hW.2) ((HBL.out.below hW.1).mono (Nat.le_refl _) hW.2) hcnk (by omega) (by omega)
          have HAT := hidden hAT
          have hG1 : Gr w.heap.size w wr := ⟨hG0.1.trans (hgr.1.mono (by omega)), by have := hgr.2; omega⟩
          clear hAT hu hc HB HBL HBL' HB' HCS
          subst hga
          go_wp2_with fail
          have hgS : g < wr.heap.size := by have := hgr.2; omega
          have hwS : w.heap.size < wr.heap.size := by have := hgr.2; omega
          go_region_held3 (fun w' => w'.cell? ⟨g, k, none⟩ = some (.int .i32 z) ∧ w'.cell? ⟨w.heap.size, 0, none⟩ = some (.int .u64 sh) ∧ w'.cell? ⟨w.heap.size, 1, none⟩ = some (.slice ca cn cc)) ((repeat' apply And.intro) <;> (first | assumption | (simp [go_sem, hu', x0, x1, hgS, hwS, ↓IntWalk.iteOmega]; done)))
            (first
              | (go_at_call 21; refine (HAT.out _ (hG1.drew)).mono ?_; rintro e w' ⟨y, rfl, hy, x, rfl⟩)
              | (refine step_append_own rfl (.tmp 40) (.tmp 51) 35 rfl (w.heap.size + 1) 2 i0 (.int .i64 0) 1 8 Try.underlying35 hi hz0 hz1 hz2 rfl (by decide) (.slice qa qn qc) k xs (by simp [Act.eval]) ((own_ext HO.out.drew x).alloc _) ⟨wr.heap.size + (x 0).1.size, 0, none⟩ 1 1 [.int .i64 (IntKind.i64.wrap (IntKind.i64.wrap z - y))] (by simp [Act.eval]) rfl (by intro j u hj; rcases j with _ | j <;> simp at hj; subst hj; simp [Addr.add, go_sem, ↓IntWalk.iteOmega]) (by intro u hu; simp at hu; subst hu; rfl) (by unfold maxLen; omega) (by omega) (by have := hgr.2; simp [go_sem]; omega) ?_
                 intro v' w1 hown' hgrow _
                 have k1 := app_cell g k (own_ne HO.out (by omega : g < w.heap.size + 1)) hgrow hgS hu'
                 have k2 := app_cell w.heap.size 0 (own_ne HO.out (by omega : w.heap.size < w.heap.size + 1)) hgrow hwS x0
                 have k3 := app_cell w.heap.size 1 (own_ne HO.out (by omega : w.heap.size < w.heap.size + 1)) hgrow hwS x1))
          obtain ⟨qa', qn', qc', rfl⟩ := own_slice hown'
          have hgr1 : Gr (w.heap.size + 1) W0 w1 := ((hgr.drew.ext x).alloc _).grown hgrow (fun k hk => ownBlock_ge HO.out k hk)
          have HO' := hidden hown'
          have hY := i64_bd (IntKind.i64.wrap z - y)
          generalize IntKind.i64.wrap (IntKind.i64.wrap z - y) = Y at *
          clear hown' hgrow k1 k2 k3
          go_wp2
          refine ⟨⟨k + 1, _, qa', qn', qc', by omega, by omega, by go_num, rfl, hgr1, HO'.out, ?_⟩, by simp [intOf]; omega⟩
          intro v hv
          rcases List.mem_append.1 hv with hv | hv
          · exact HX.out v hv
          · simp at hv; rw [hv]; exact ⟨Y, rfl, hY.1, hY.2⟩
        · go_wp2
          go_ret
          obtain rfl : k = bn := by omega
          refine ⟨_, rfl, (Ry.own HO.out HX.out).mono (Nat.zero_le _) (Nat.le_refl _), Gr.of ⟨hG0.1.trans (hgr.1.mono (by omega)), by have := hgr.2; omega⟩⟩
end Go.Proofs.Qxb6500679a
