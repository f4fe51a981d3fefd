import Derived.Test.Qxb6500680aDoorSplit
import Derived.Test.Qxb6500680aDoorCls
import Derived.Deep.RegionLaw
namespace Go.Proofs.Qxb6500680aDoor
open Go.RowKit Go.BigFrame
set_option linter.unusedSimpArgs false
attribute [local go_sem] ext_cell_if ext_frozen_if alloc_cell_if alloc_frozen_if ext_size ext_ext
theorem Tryd.info26 : (Tryd.prog.info? 26).map (fun i => (i.zero, i.size, i.bytes)) = some (some (.int .u64 0), 1, 8) := by kernel_rfl
def InR (FM : Int) (u : Value) : Prop := ∃ f, u = .int .u64 f ∧ 0 ≤ f ∧ f ≤ FM
theorem heap_new (w : World) (o : Obj) : (w.alloc o).heap[w.heap.size]? = some o := by show (w.heap.push o)[w.heap.size]? = _; simp
theorem step_append_own {P : Program} {ops : Array Oper} {o : Oper} {a : Act} {w : World} {K : Act → World → Prop} {Q : Exit → Act → World → Prop} {E : Prop} (hg : o.guard = none) (s x : Operand) (t : TypeId)
    (ho : o.op = .call { callee := .builtin .append, args := #[s, x], argTypes := #[t, t] })
    (base : Nat) (e : TypeId) (i : TypeInfo) (z : Value) (size bytes : Nat) (ht : P.underlying t = some (.slice e)) (hi : P.info? e = some i) (hz : i.zero = some z)
    (hsize : i.size = size) (hby : i.bytes = bytes) (hzs : z.cells.size = size) (hsz : 0 < size)
    (v : Value) (n : Nat) (xs : List Value) (hs : a.eval s = v) (hown : w.ownsRow base e size v n xs)
    (ad : Addr) (m c : Nat) (news : List Value) (hx : a.eval x = .slice (some ad) m c) (hl : news.length = m * size) (hnews : ∀ j u, news[j]? = some u → w.cell? (ad.add j) = some u) (h1 : ∀ u ∈ news, u.oneCell' = true)
    (h63 : n + m ≤ maxLen) (hbytes : (n + m) * bytes ≤ 140737488355328) (hbase : base ≤ w.heap.size)
    (h : ∀ v' w', w'.ownsRow base e size v' (n + m) (xs ++ news) → w.grownBy w' v.ownBlock → (v' = .slice none 0 0 ↔ v = .slice none 0 0 ∧ m = 0) → K (a.put o.dst v') w') :
    if Region.wanted o (yielded ops a.tmps) = true then Oper.wp P o a w K Q else E := by
  rw [if_pos (by simp [Region.wanted, hg])]
  exact wp_append_own w s x t ho base e i z size bytes ht hi hz hsize hby hzs hsz v n xs hs hown ad m c news hx hl hnews h1 h63 hbytes hbase h
theorem ownBlock_ge {w : World} {base : Nat} {e : TypeId} {size : Nat} {v : Value} {n : Nat} {xs : List Value} (h : w.ownsRow base e size v n xs) : ∀ k, v.ownBlock = some k → base ≤ k := by
  intro k hk
  obtain ⟨_, ⟨rfl, _⟩ | ⟨g, cap, cur, rfl, hg, _⟩⟩ := h
  · simp [Value.ownBlock] at hk
  · simp [Value.ownBlock] at hk; omega
theorem own_open {w : World} {base : Nat} {v : Value} {n : Nat} {xs : List Value} {FM : Int} (h : w.ownsRow base 26 1 v n xs) (hx : ∀ u ∈ xs, InR FM u) (hn : 0 < n) :
    ∃ g cap, v = .slice (some ⟨g, 0, none⟩) n cap ∧ g < w.heap.size ∧ ∀ j, j < n → ∃ f, w.cell? ⟨g, j, none⟩ = some (.int .u64 f) ∧ 0 ≤ f ∧ f ≤ FM := by
  have h0 := h
  obtain ⟨hl, ⟨_, h1⟩ | ⟨g, cap, cur, rfl, hg, hh, _⟩⟩ := h
  · omega
  · refine ⟨g, cap, rfl, lt_of_cells hh, fun j hj => ?_⟩
    have hc := h0.cellAt j (by omega)
    have hj' : j < xs.length := by omega
    rw [List.getElem?_eq_getElem hj'] at hc
    obtain ⟨f, hf, f0, f1⟩ := hx xs[j] (List.getElem_mem hj')
    exact ⟨f, by rw [hc, hf], f0, f1⟩
theorem pow_wrap (k r : Nat) (hk : k < r) (hr : r ≤ 60) : 0 ≤ IntKind.u64.wrap ((2 : Int) ^ k) ∧ IntKind.u64.wrap ((2 : Int) ^ k) ≤ 2 ^ r - 1 := by
  have h1 : 2 ^ k < 2 ^ r := Nat.pow_lt_pow_right (by decide) hk
  have h2 : 2 ^ r ≤ 2 ^ 60 := Nat.pow_le_pow_right (by decide) hr
  have h3 : 0 < 2 ^ k := Nat.pow_pos (by decide)
  have e1 : ((2 : Int) ^ k) = ((2 ^ k : Nat) : Int) := by simp
  have e2 : ((2 : Int) ^ r) = ((2 ^ r : Nat) : Int) := by simp
  rw [IntKind.wrap_u64, e1, e2]
  omega
theorem andNot_le (a b : Int) (h1 : 0 ≤ a) (h2 : a < 18446744073709551616) (h3 : 0 ≤ b) (h4 : b < 18446744073709551616) : 0 ≤ bits .andNot .u64 a b ∧ bits .andNot .u64 a b ≤ a := by
  rw [u64_andNot a b h1 h2 h3 h4]
  have := Nat.and_le_left (n := a.toNat) (m := 18446744073709551615 - b.toNat)
  omega
set_option maxHeartbeats 2000000 in
theorem law_any (w : World) (g : Glob w) :
    Calls Tryd.prog 3 #[] w fun r w' => r = .returned (.bool true) ∧ ∃ x, w' = ext w x := by
  go_enter Tryd.func3, Tryd.ntmps3
  go_wp2
  go_loopw [14] (fun i wr => ∃ k : Nat, k ≤ 2 ∧ i = .int .i64 k ∧ Gr (w.heap.size + 1) (w.alloc (.cells #[.int .i64 32, .int .i64 64] 3)) wr) (fun i _ => 2 - (intOf i).toNat)
  case atStart => exact ⟨0, by omega, rfl, by have := Gr.refl (w.alloc (.cells #[.int .i64 32, .int .i64 64] 3)); simpa using this⟩
  case round =>
    obtain ⟨k, hk, rfl, hgr⟩ := hrel
    have c0 : wr.cell? ⟨w.heap.size, 0, none⟩ = some (.int .i64 32) := by rw [hgr.1.cell (p := ⟨w.heap.size, 0, none⟩) (by show w.heap.size < _; omega)]; simp [go_sem]
    have c1 : wr.cell? ⟨w.heap.size, 1, none⟩ = some (.int .i64 64) := by rw [hgr.1.cell (p := ⟨w.heap.size, 1, none⟩) (by show w.heap.size < _; omega)]; simp [go_sem]
    rcases (show k = 0 ∨ k = 1 ∨ k = 2 by omega) with rfl | rfl | rfl
    case inl =>
      go_wp2_with (go_at_call 4; refine (of32 _).mono ?_; rintro r w' ⟨rfl, x, rfl⟩)
      obtain ⟨i0, hi, hz0, hz1, hz2⟩ := info_parts Tryd.info26
      refine wp_gen (fun wa => wa.cell? ⟨wr.heap.size + (x 0).1.size, 0, none⟩ = some (.int .i64 32) ∧ wa.cell? ⟨wr.heap.size + (x 0).1.size, 1, none⟩ = some (.int .i64 8) ∧ wa.cell? ⟨wr.heap.size + (x 0).1.size, 2, none⟩ = some (.int .i64 23) ∧
          wa.ownsRow (wr.heap.size + (x 0).1.size + 1) 26 1 (.slice (some ⟨wr.heap.size + (x 0).1.size + 1, 0, none⟩) 2 2) 2 [.int .u64 0, .int .u64 8388607] ∧ wr.heap.size + (x 0).1.size + 1 < wa.heap.size ∧ Gr (w.heap.size + 1) (w.alloc (.cells #[.int .i64 32, .int .i64 64] 3)) wa)
        ⟨by simp [go_sem, ↓IntWalk.iteOmega], by simp [go_sem, ↓IntWalk.iteOmega], by simp [go_sem, ↓IntWalk.iteOmega], ⟨rfl, Or.inr ⟨_, 2, #[.int .u64 0, .int .u64 8388607], rfl, Nat.le_refl _, by
          have := heap_new ((ext wr x).alloc (.cells #[.int .i64 32, .int .i64 8, .int .i64 23] 24)) (.cells #[.int .u64 0, .int .u64 8388607] 26)
          simpa [go_sem] using this, by decide, by decide, rfl, rfl⟩⟩, by simp [go_sem], by repeat (first | exact hgr | refine Gr.alloc ?_ _ | refine Gr.ext ?_ _)⟩ ?_
      have hb3 : w.heap.size + 1 ≤ wr.heap.size + (x 0).1.size := by have := hgr.2; omega
      generalize wr.heap.size + (x 0).1.size = b3 at *
      clear c0 c1 hgr x wr
      rintro wa ⟨m0, m1, m2, hown, hlt, hgr⟩
      go_loopw [5, 6] (fun v i wr => ∃ (k : Nat) (xs : List Value), k ≤ 23 ∧ i = .int .i64 k ∧ wr.ownsRow (b3 + 1) 26 1 v (2 + 2 * k) xs ∧ (∀ u ∈ xs, InR 8388607 u) ∧
          wr.cell? ⟨b3, 0, none⟩ = some (.int .i64 32) ∧ wr.cell? ⟨b3, 1, none⟩ = some (.int .i64 8) ∧ wr.cell? ⟨b3, 2, none⟩ = some (.int .i64 23) ∧ b3 + 1 < wr.heap.size ∧ Gr (w.heap.size + 1) (w.alloc (.cells #[.int .i64 32, .int .i64 64] 3)) wr) (fun _ i _ => 23 - (intOf i).toNat)
      case atStart => exact ⟨0, _, by omega, rfl, hown, by intro u hu; simp at hu; rcases hu with rfl | rfl; exact ⟨_, rfl, by omega, by omega⟩; exact ⟨_, rfl, by omega, by omega⟩, m0, m1, m2, hlt, hgr⟩
      case round =>
        clear hown hlt hgr m0 m1 m2 wa
        obtain ⟨k, xs, hk, rfl, hown, hxs, m0, m1, m2, hlt, hgr⟩ := hrel
        by_cases hk2 : k < 23
        · obtain ⟨E1, hE1⟩ : ∃ E, IntKind.u64.wrap ((2 : Int) ^ k) = E := ⟨_, rfl⟩
          obtain ⟨E2, hE2⟩ : ∃ E, bits .andNot .u64 8388607 E1 = E := ⟨_, rfl⟩
          have hB1 := pow_wrap k 23 hk2 (by decide)
          rw [hE1] at hB1
          have hB2 := andNot_le 8388607 E1 (by decide) (by decide) hB1.1 (by have := hB1.2; omega)
          rw [hE2] at hB2
          have HB : Hid ((0 ≤ E1 ∧ E1 ≤ 8388607) ∧ (0 ≤ E2 ∧ E2 ≤ 8388607)) := ⟨⟨hB1.1, by have := hB1.2; omega⟩, hB2⟩
          clear hB1 hB2
          have HO := hidden hown
          have HX := hidden hxs
          clear hown hxs
          go_wp2
          go_region_law (refine step_append_own rfl (.tmp 32) (.tmp 39) 27 rfl (b3 + 1) 26 i0 (.int .u64 0) 1 8 Tryd.underlying27 hi hz0 hz1 hz2 rfl (by decide) u5 (2 + 2 * k) xs (by simp [Act.eval]) ((HO.out.alloc _).drew) ⟨wr.heap.size, 0, none⟩ 2 2 [.int .u64 E1, .int .u64 E2] (by simp [Act.eval]) rfl (by intro j u hj; rcases j with _ | _ | j <;> simp at hj <;> subst hj <;> simp [Addr.add]) (by intro u hu; simp at hu; rcases hu with rfl | rfl <;> rfl) (by unfold maxLen; omega) (by omega) (by simp; omega) ?_; intro v' w1 hown' hgrow _)
          have hb1 : Below (b3 + 1) wr w1 := (((Below.refl (b3 + 1) wr).alloc (by omega) _).drew).grown hgrow (by simp; omega) (fun j hj => ownBlock_ge HO.out j hj)
          have n0 := (hb1.cell (p := ⟨b3, 0, none⟩) (by show b3 < b3 + 1; omega)).trans m0
          have n1 := (hb1.cell (p := ⟨b3, 1, none⟩) (by show b3 < b3 + 1; omega)).trans m1
          have n2 := (hb1.cell (p := ⟨b3, 2, none⟩) (by show b3 < b3 + 1; omega)).trans m2
          have hgr' := (hgr.alloc _).drew.grown hgrow (fun j hj => by have := ownBlock_ge HO.out j hj; omega)
          have hlt' : b3 + 1 < w1.heap.size := by have := hb1.size; omega
          have HO' := hidden hown'
          clear hgrow hown' hb1 HO m0 m1 m2 hgr hlt hE1 hE2
          go_wp2
          go_roundw
          case rel =>
            refine ⟨k + 1, xs ++ [.int .u64 E1, .int .u64 E2], by omega, by go_num, (show 2 + 2 * (k + 1) = 2 + 2 * k + 2 by omega) ▸ HO'.out, ?_, n0, n1, n2, hlt', hgr'⟩
            intro u hu
            rcases List.mem_append.1 hu with hu | hu
            · exact HX.out u hu
            · obtain ⟨⟨q1, q2⟩, q3, q4⟩ := HB.out
              simp at hu
              rcases hu with rfl | rfl
              · exact ⟨_, rfl, q1, q2⟩
              · exact ⟨_, rfl, q3, q4⟩
          case measure => simp [intOf]; omega
        · obtain rfl : k = 23 := by omega
          have hown48 : wr.ownsRow (b3 + 1) 26 1 u5 48 xs := hown
          obtain ⟨ga, cap, hv, hgl, hcells⟩ := own_open hown48 hxs (by omega)
          subst hv
          have HCe := hidden hcells
          have gb : Glob wr := (g.gr ((Gr.refl w).alloc _)).below hgr.1 (by have := g.lt; omega)
          have HG := hidden hgr
          clear hown hown48 hxs hcells hk hk2 xs hgr
          go_wp2
          clear hi hz0 hz1 hz2 hb3
          generalize wr = wb at *
          go_loopw [7] (fun i wx => ∃ sg : Int, 0 ≤ sg ∧ sg ≤ 2 ∧ i = .int .u64 sg ∧ Gr wb.heap.size wb wx) (fun i _ => 2 - (intOf i).toNat)
          case atStart => exact ⟨0, by omega, by omega, rfl, Gr.refl _⟩
          case round =>
            obtain ⟨sg, hs0, hs1, rfl, hgx⟩ := hrel
            by_cases hs2 : sg < 2
            · go_wp2
              go_loopw [8] (fun i wx => ∃ ex : Int, 0 ≤ ex ∧ ex ≤ 256 ∧ i = .int .u64 ex ∧ Gr wb.heap.size wb wx) (fun i _ => 256 - (intOf i).toNat)
              case atStart => exact ⟨0, by omega, by omega, rfl, hgx⟩
              case round =>
                clear hgx
                obtain ⟨ex, he0, he1, rfl, hgx⟩ := hrel
                have p1 := (hgx.1.cell (p := ⟨b3, 1, none⟩) (by show b3 < _; omega)).trans m1
                by_cases he2 : ex < 256
                · go_wp2
                  clear p1
                  go_loopw [54] (fun i wx => ∃ j : Nat, j ≤ 48 ∧ i = .int .i64 j ∧ Gr wb.heap.size wb wx) (fun i _ => 48 - (intOf i).toNat)
                  case atStart => exact ⟨0, by omega, rfl, hgx⟩
                  case round =>
                    clear hgx
                    obtain ⟨j, hj, rfl, hgx⟩ := hrel
                    by_cases hj2 : j < 48
                    · obtain ⟨f, hc, f0, f1⟩ := HCe.out j hj2
                      have hcx := (hgx.1.cell (p := ⟨ga, j, none⟩) (by show ga < _; omega)).trans hc
                      have p0 := (hgx.1.cell (p := ⟨b3, 0, none⟩) (by show b3 < _; omega)).trans m0
                      have p1 := (hgx.1.cell (p := ⟨b3, 1, none⟩) (by show b3 < _; omega)).trans m1
                      have p2 := (hgx.1.cell (p := ⟨b3, 2, none⟩) (by show b3 < _; omega)).trans m2
                      have gx : Glob wr := gb.gr hgx
                      obtain ⟨neg, q, s', e', f', HP⟩ := pat32_of (sg * 2147483648 + ex * 8388608 + f) (by omega) (by omega)
                      obtain ⟨c, HC⟩ := clsEF_of 255 e' f' (by decide) HP.e0 HP.e1 HP.f0
                      clear hc m0 m1 m2
                      go_wp2_with (first | (go_at_call 5; refine (pattern32 sg ex f hs0 (by omega) he0 (by omega) f0 f1 _).mono ?_; rintro r w' ⟨rfl, x, rfl⟩) | (go_at_call 6; refine (splitJoinHolds32 _ neg q s' e' f' HP _ (gx.gr (by repeat (first | exact Gr.refl _ | refine Gr.ext ?_ _)))).mono ?_; rintro r w' ⟨rfl, x, rfl⟩) | (go_at_call 7; refine (classHolds32 _ neg q s' e' f' HP c HC _ (gx.gr (by repeat (first | exact Gr.refl _ | refine Gr.ext ?_ _)))).mono ?_; rintro r w' ⟨rfl, x, rfl⟩))
                      go_roundw
                      case rel => (repeat apply Exists.intro); refine ⟨?_, ?_⟩; rotate_left; rfl; exact ⟨j + 1, by omega, by go_num, by repeat (first | exact hgx | refine Gr.ext ?_ _)⟩
                      case measure => simp [intOf]; omega
                    · go_wp2
                      go_roundw
                      case rel => exact ⟨ex + 1, by omega, by omega, by go_num, hgx⟩
                      case measure => simp [intOf]; omega
                · go_wp2
                  go_roundw
                  case rel => exact ⟨sg + 1, by omega, by omega, by go_num, hgx⟩
                  case measure => simp [intOf]; omega
            · go_wp2
              go_roundw
              case rel => exact ⟨1, by omega, by go_num, ⟨HG.out.1.trans (hgx.1.mono HG.out.2), Nat.le_trans HG.out.2 hgx.2⟩⟩
              case measure => simp [intOf]
    case inr.inl =>
      go_wp2_with (go_at_call 4; refine (of64 _).mono ?_; rintro r w' ⟨rfl, x, rfl⟩)
      obtain ⟨i0, hi, hz0, hz1, hz2⟩ := info_parts Tryd.info26
      refine wp_gen (fun wa => wa.cell? ⟨wr.heap.size + (x 0).1.size, 0, none⟩ = some (.int .i64 64) ∧ wa.cell? ⟨wr.heap.size + (x 0).1.size, 1, none⟩ = some (.int .i64 11) ∧ wa.cell? ⟨wr.heap.size + (x 0).1.size, 2, none⟩ = some (.int .i64 52) ∧
          wa.ownsRow (wr.heap.size + (x 0).1.size + 1) 26 1 (.slice (some ⟨wr.heap.size + (x 0).1.size + 1, 0, none⟩) 2 2) 2 [.int .u64 0, .int .u64 4503599627370495] ∧ wr.heap.size + (x 0).1.size + 1 < wa.heap.size ∧ Gr (w.heap.size + 1) (w.alloc (.cells #[.int .i64 32, .int .i64 64] 3)) wa)
        ⟨by simp [go_sem, ↓IntWalk.iteOmega], by simp [go_sem, ↓IntWalk.iteOmega], by simp [go_sem, ↓IntWalk.iteOmega], ⟨rfl, Or.inr ⟨_, 2, #[.int .u64 0, .int .u64 4503599627370495], rfl, Nat.le_refl _, by
          have := heap_new ((ext wr x).alloc (.cells #[.int .i64 64, .int .i64 11, .int .i64 52] 24)) (.cells #[.int .u64 0, .int .u64 4503599627370495] 26)
          simpa [go_sem] using this, by decide, by decide, rfl, rfl⟩⟩, by simp [go_sem], by repeat (first | exact hgr | refine Gr.alloc ?_ _ | refine Gr.ext ?_ _)⟩ ?_
      have hb3 : w.heap.size + 1 ≤ wr.heap.size + (x 0).1.size := by have := hgr.2; omega
      generalize wr.heap.size + (x 0).1.size = b3 at *
      clear c0 c1 hgr x wr
      rintro wa ⟨m0, m1, m2, hown, hlt, hgr⟩
      go_loopw [5, 6] (fun v i wr => ∃ (k : Nat) (xs : List Value), k ≤ 52 ∧ i = .int .i64 k ∧ wr.ownsRow (b3 + 1) 26 1 v (2 + 2 * k) xs ∧ (∀ u ∈ xs, InR 4503599627370495 u) ∧
          wr.cell? ⟨b3, 0, none⟩ = some (.int .i64 64) ∧ wr.cell? ⟨b3, 1, none⟩ = some (.int .i64 11) ∧ wr.cell? ⟨b3, 2, none⟩ = some (.int .i64 52) ∧ b3 + 1 < wr.heap.size ∧ Gr (w.heap.size + 1) (w.alloc (.cells #[.int .i64 32, .int .i64 64] 3)) wr) (fun _ i _ => 52 - (intOf i).toNat)
      case atStart => exact ⟨0, _, by omega, rfl, hown, by intro u hu; simp at hu; rcases hu with rfl | rfl; exact ⟨_, rfl, by omega, by omega⟩; exact ⟨_, rfl, by omega, by omega⟩, m0, m1, m2, hlt, hgr⟩
      case round =>
        clear hown hlt hgr m0 m1 m2 wa
        obtain ⟨k, xs, hk, rfl, hown, hxs, m0, m1, m2, hlt, hgr⟩ := hrel
        by_cases hk2 : k < 52
        · obtain ⟨E1, hE1⟩ : ∃ E, IntKind.u64.wrap ((2 : Int) ^ k) = E := ⟨_, rfl⟩
          obtain ⟨E2, hE2⟩ : ∃ E, bits .andNot .u64 4503599627370495 E1 = E := ⟨_, rfl⟩
          have hB1 := pow_wrap k 52 hk2 (by decide)
          rw [hE1] at hB1
          have hB2 := andNot_le 4503599627370495 E1 (by decide) (by decide) hB1.1 (by have := hB1.2; omega)
          rw [hE2] at hB2
          have HB : Hid ((0 ≤ E1 ∧ E1 ≤ 4503599627370495) ∧ (0 ≤ E2 ∧ E2 ≤ 4503599627370495)) := ⟨⟨hB1.1, by have := hB1.2; omega⟩, hB2⟩
          clear hB1 hB2
          have HO := hidden hown
          have HX := hidden hxs
          clear hown hxs
          go_wp2
          go_region_law (refine step_append_own rfl (.tmp 32) (.tmp 39) 27 rfl (b3 + 1) 26 i0 (.int .u64 0) 1 8 Tryd.underlying27 hi hz0 hz1 hz2 rfl (by decide) u5 (2 + 2 * k) xs (by simp [Act.eval]) ((HO.out.alloc _).drew) ⟨wr.heap.size, 0, none⟩ 2 2 [.int .u64 E1, .int .u64 E2] (by simp [Act.eval]) rfl (by intro j u hj; rcases j with _ | _ | j <;> simp at hj <;> subst hj <;> simp [Addr.add]) (by intro u hu; simp at hu; rcases hu with rfl | rfl <;> rfl) (by unfold maxLen; omega) (by omega) (by simp; omega) ?_; intro v' w1 hown' hgrow _)
          have hb1 : Below (b3 + 1) wr w1 := (((Below.refl (b3 + 1) wr).alloc (by omega) _).drew).grown hgrow (by simp; omega) (fun j hj => ownBlock_ge HO.out j hj)
          have n0 := (hb1.cell (p := ⟨b3, 0, none⟩) (by show b3 < b3 + 1; omega)).trans m0
          have n1 := (hb1.cell (p := ⟨b3, 1, none⟩) (by show b3 < b3 + 1; omega)).trans m1
          have n2 := (hb1.cell (p := ⟨b3, 2, none⟩) (by show b3 < b3 + 1; omega)).trans m2
          have hgr' := (hgr.alloc _).drew.grown hgrow (fun j hj => by have := ownBlock_ge HO.out j hj; omega)
          have hlt' : b3 + 1 < w1.heap.size := by have := hb1.size; omega
          have HO' := hidden hown'
          clear hgrow hown' hb1 HO m0 m1 m2 hgr hlt hE1 hE2
          go_wp2
          go_roundw
          case rel =>
            refine ⟨k + 1, xs ++ [.int .u64 E1, .int .u64 E2], by omega, by go_num, (show 2 + 2 * (k + 1) = 2 + 2 * k + 2 by omega) ▸ HO'.out, ?_, n0, n1, n2, hlt', hgr'⟩
            intro u hu
            rcases List.mem_append.1 hu with hu | hu
            · exact HX.out u hu
            · obtain ⟨⟨q1, q2⟩, q3, q4⟩ := HB.out
              simp at hu
              rcases hu with rfl | rfl
              · exact ⟨_, rfl, q1, q2⟩
              · exact ⟨_, rfl, q3, q4⟩
          case measure => simp [intOf]; omega
        · obtain rfl : k = 52 := by omega
          have hownN : wr.ownsRow (b3 + 1) 26 1 u5 106 xs := hown
          obtain ⟨ga, cap, hv, hgl, hcells⟩ := own_open hownN hxs (by omega)
          subst hv
          have HCe := hidden hcells
          have gb : Glob wr := (g.gr ((Gr.refl w).alloc _)).below hgr.1 (by have := g.lt; omega)
          have HG := hidden hgr
          clear hown hownN hxs hcells hk hk2 xs hgr
          go_wp2
          clear hi hz0 hz1 hz2 hb3
          generalize wr = wb at *
          go_loopw [7] (fun i wx => ∃ sg : Int, 0 ≤ sg ∧ sg ≤ 2 ∧ i = .int .u64 sg ∧ Gr wb.heap.size wb wx) (fun i _ => 2 - (intOf i).toNat)
          case atStart => exact ⟨0, by omega, by omega, rfl, Gr.refl _⟩
          case round =>
            obtain ⟨sg, hs0, hs1, rfl, hgx⟩ := hrel
            by_cases hs2 : sg < 2
            · go_wp2
              go_loopw [8] (fun i wx => ∃ ex : Int, 0 ≤ ex ∧ ex ≤ 2048 ∧ i = .int .u64 ex ∧ Gr wb.heap.size wb wx) (fun i _ => 2048 - (intOf i).toNat)
              case atStart => exact ⟨0, by omega, by omega, rfl, hgx⟩
              case round =>
                clear hgx
                obtain ⟨ex, he0, he1, rfl, hgx⟩ := hrel
                have p1 := (hgx.1.cell (p := ⟨b3, 1, none⟩) (by show b3 < _; omega)).trans m1
                by_cases he2 : ex < 2048
                · go_wp2
                  clear p1
                  go_loopw [54] (fun i wx => ∃ j : Nat, j ≤ 106 ∧ i = .int .i64 j ∧ Gr wb.heap.size wb wx) (fun i _ => 106 - (intOf i).toNat)
                  case atStart => exact ⟨0, by omega, rfl, hgx⟩
                  case round =>
                    clear hgx
                    obtain ⟨j, hj, rfl, hgx⟩ := hrel
                    by_cases hj2 : j < 106
                    · obtain ⟨f, hc, f0, f1⟩ := HCe.out j hj2
                      have hcx := (hgx.1.cell (p := ⟨ga, j, none⟩) (by show ga < _; omega)).trans hc
                      have p0 := (hgx.1.cell (p := ⟨b3, 0, none⟩) (by show b3 < _; omega)).trans m0
                      have p1 := (hgx.1.cell (p := ⟨b3, 1, none⟩) (by show b3 < _; omega)).trans m1
                      have p2 := (hgx.1.cell (p := ⟨b3, 2, none⟩) (by show b3 < _; omega)).trans m2
                      have gx : Glob wr := gb.gr hgx
                      obtain ⟨neg, q, s', e', f', HP⟩ := pat64_of (sg * 9223372036854775808 + ex * 4503599627370496 + f) (by omega) (by omega)
                      obtain ⟨c, HC⟩ := clsEF_of 2047 e' f' (by decide) HP.e0 HP.e1 HP.f0
                      clear hc m0 m1 m2
                      go_wp2_with (first | (go_at_call 5; refine (pattern64 sg ex f hs0 (by omega) he0 (by omega) f0 f1 _).mono ?_; rintro r w' ⟨rfl, x, rfl⟩) | (go_at_call 6; refine (splitJoinHolds64 _ neg q s' e' f' HP _ (gx.gr (by repeat (first | exact Gr.refl _ | refine Gr.ext ?_ _)))).mono ?_; rintro r w' ⟨rfl, x, rfl⟩) | (go_at_call 7; refine (classHolds64 _ neg q s' e' f' HP c HC _ (gx.gr (by repeat (first | exact Gr.refl _ | refine Gr.ext ?_ _)))).mono ?_; rintro r w' ⟨rfl, x, rfl⟩))
                      go_roundw
                      case rel => (repeat apply Exists.intro); refine ⟨?_, ?_⟩; rotate_left; rfl; exact ⟨j + 1, by omega, by go_num, by repeat (first | exact hgx | refine Gr.ext ?_ _)⟩
                      case measure => simp [intOf]; omega
                    · go_wp2
                      go_roundw
                      case rel => exact ⟨ex + 1, by omega, by omega, by go_num, hgx⟩
                      case measure => simp [intOf]; omega
                · go_wp2
                  go_roundw
                  case rel => exact ⟨sg + 1, by omega, by omega, by go_num, hgx⟩
                  case measure => simp [intOf]; omega
            · go_wp2
              go_roundw
              case rel => exact ⟨2, by omega, by go_num, ⟨HG.out.1.trans (hgx.1.mono HG.out.2), Nat.le_trans HG.out.2 hgx.2⟩⟩
              case measure => simp [intOf]
    case inr.inr =>
      go_wp2
      go_ret
      exact ⟨rfl, Gr.of (by
        have h1 := (Gr.refl w).alloc (.cells #[.int .i64 32, .int .i64 64] 3)
        exact ⟨h1.1.trans (hgr.1.mono (by omega)), by have := hgr.2; omega⟩)⟩
end Go.Proofs.Qxb6500680aDoor
