import Derived.Test.Qxb6500688aJoinr
import Derived.Test.Qxb6500688aJoinl
namespace Go.Proofs.Qxb6500688a
open Go.RowKit Go.BigFrame
set_option linter.unusedSimpArgs false
attribute [local go_sem] ext_cell_if ext_frozen_if alloc_cell_if alloc_frozen_if ext_size ext_ext
set_option maxRecDepth 100000 in
set_option maxHeartbeats 1000000 in
theorem join_any (l r : T) (b : Nat) (g : G) (w : World) (hl : l.Rep w) (hr : r.Rep w) (hb : Raw w b g) (hn : (l.blocks ++ b :: r.blocks).Nodup) (hsz : l.sz + r.sz ≤ 50000) :
    Calls Try.prog 36 #[l.ptr, .pointer (some ⟨b, 0, none⟩), r.ptr] w (JoinOK w l b g r) := by
  have A1 := hidden (height_any l w hl)
  have A2 := hidden (height_any r w hr)
  have B1 := hidden (joinRight_any l r b g w hl hr hb hn hsz)
  have B2 := hidden (joinLeft_any r l b g w hl hr hb hn hsz)
  have hbb : b ∉ l.blocks ∧ b ∉ r.blocks := by
    have hn1 := hn
    rw [List.nodup_append] at hn1
    exact ⟨fun e => hn1.2.2 b e b (by simp) rfl, (List.nodup_cons.1 hn1.2.1).1⟩
  have B3 := hidden (link_any l r b g w hl hr hb hbb.1 hbb.2 (by omega))
  have hz1 := l.ht_sz
  have hz2 := r.ht_sz
  clear hl hr hb hn hbb
  go_enter Try.func36, Try.ntmps36
  by_cases h1 : r.ht + 1 < l.ht
  · go_wp2_with (first
      | (go_at_call_of 15 (T.ptr l); (with_reducible refine A1.out.mono ?_); rintro _ w ⟨rfl, rfl⟩)
      | (go_at_call_of 15 (T.ptr r); (with_reducible refine A2.out.mono ?_); rintro _ w ⟨rfl, rfl⟩)
      | (go_at_call 40; (with_reducible refine (B1.out h1).mono ?_); rintro _ w1 ⟨t, rfl, hs, ht, hw⟩))
    go_ret
    exact ⟨t, rfl, hs, ht, hw⟩
  by_cases h2 : l.ht + 1 < r.ht
  · go_wp2_with (first
      | (go_at_call_of 15 (T.ptr l); (with_reducible refine A1.out.mono ?_); rintro _ w ⟨rfl, rfl⟩)
      | (go_at_call_of 15 (T.ptr r); (with_reducible refine A2.out.mono ?_); rintro _ w ⟨rfl, rfl⟩)
      | (go_at_call 41; (with_reducible refine (B2.out h2).mono ?_); rintro _ w1 ⟨t, rfl, hs, ht, hw⟩))
    go_ret
    exact ⟨t, rfl, hs, ht, hw⟩
  · go_wp2_with (first
      | (go_at_call_of 15 (T.ptr l); (with_reducible refine A1.out.mono ?_); rintro _ w ⟨rfl, rfl⟩)
      | (go_at_call_of 15 (T.ptr r); (with_reducible refine A2.out.mono ?_); rintro _ w ⟨rfl, rfl⟩)
      | (go_at_call 42; (with_reducible refine B3.out.mono ?_); rintro _ w1 ⟨rfl, ht, hw⟩))
    go_ret
    exact ⟨T.node b l g r, rfl, rfl, ht, hw.mono (by simp)⟩
/-- What split answers. -/
def SplitOK (w : World) (t : T) (i : Int) (e : Ending) (w' : World) : Prop :=
  ∃ a c : T, e = .returned (.tuple #[a.ptr, c.ptr]) ∧ a.seq = t.seq.take i.toNat ∧ c.seq = t.seq.drop i.toNat ∧ a.Rep w' ∧ c.Rep w' ∧ Tw t.blocks w w'
theorem parts {t a c : T} {n : Nat} (h1 : a.seq = t.seq.take n) (h2 : c.seq = t.seq.drop n) : t.blocks = a.blocks ++ c.blocks ∧ t.sz = a.sz + c.sz := by
  have e : t.seq = a.seq ++ c.seq := by rw [h1, h2, List.take_append_drop]
  refine ⟨by unfold T.blocks; rw [e, List.map_append], ?_⟩
  rw [← T.sz_seq, e, List.length_append, T.sz_seq, T.sz_seq]
set_option maxRecDepth 100000 in
set_option maxHeartbeats 1000000 in
theorem split_any (t : T) : ∀ (i : Int) (w : World), t.Rep w → t.blocks.Nodup → t.sz ≤ 40000 → (-9223372036854775808 ≤ i ∧ i ≤ 9223372036854775807) → Calls Try.prog 35 #[t.ptr, .int .i64 i] w (SplitOK w t i) := by
  induction t with
  | nil =>
    intro i w h hn hsz hi
    show Calls Try.prog 35 #[.pointer none, .int .i64 i] w _
    clear h hn hsz hi
    go_enter Try.func35, Try.ntmps35
    go_wp2
    go_ret2
    exact ⟨.nil, .nil, rfl, by simp [T.seq], by simp [T.seq], trivial, trivial, (Tw.refl w).mono (by simp)⟩
  | node b l g r ihl ihr =>
    intro i w h hn hsz hi
    have HW := hidden h
    obtain ⟨c0, c1⟩ := row_cells h.1
    have hbw := lt_of_cells h.1
    rw [T.blocks_node] at hn
    have hn0 := List.nodup_append.1 hn
    have hnr := List.nodup_cons.1 hn0.2.1
    have HN := hidden hn
    have HL := hidden (fun w1 (h : l.Rep w1) => ihl i w1 h hn0.1 (by simp only [T.sz] at hsz; omega) hi)
    have hsz' : l.sz + 1 + r.sz ≤ 40000 := hsz
    have HR := hidden (fun w1 (h : r.Rep w1) (hi2 : (l.sz : Int) < i) => ihr (i - (l.sz : Int) - 1) w1 h hnr.2 (by omega) (by omega))
    have D1 := hidden (fun k hk (e : k = b) => hn0.2.2 k hk b (by simp) e)
    have D2 := hidden (fun k hk => hn0.2.2 k hk)
    have D3 := hidden hnr.1
    have HC := hidden (count_any l)
    show Calls Try.prog 35 #[.pointer (some ⟨b, 0, none⟩), .int .i64 i] w _
    clear h hn hn0 hnr ihl ihr hsz
    go_enter Try.func35, Try.ntmps35
    go_upto_region 3 with (fail)
    refine wp_region_ext (by kernel_rfl) (by kernel_rfl) ?_
    repeat (go_big_quiet_step (fail))
    rintro w2 ⟨x2, rfl⟩
    have hW2 := HW.out.tw (Tw.of_ext w x2) (by simp)
    have HW2 := hidden hW2
    have HT2 := hidden (Tw.of_ext w x2)
    clear hW2 c0 c1
    generalize ext w x2 = w2 at *
    have C1 := hidden (HC.out w2 HW2.out.2.1)
    have L1 := hidden (HL.out w2 HW2.out.2.1)
    have R1 := hidden (HR.out w2 HW2.out.2.2)
    by_cases hle : i ≤ (l.sz : Int)
    · have J : Hid (∀ (a c : T) w3, a.seq = l.seq.take i.toNat → c.seq = l.seq.drop i.toNat → c.Rep w3 → Tw l.blocks w2 w3 → Calls Try.prog 36 #[c.ptr, .pointer (some ⟨b, 0, none⟩), r.ptr] w3 (JoinOK w3 c b g r)) := fun a c w3 h1 h2 h3 h4 => by
        obtain ⟨e1, e2⟩ := parts h1 h2
        refine join_any c r b g w3 h3 (HW2.out.2.2.tw h4 fun k hk e => ?_) (HW2.out.raw.tw h4 fun e => D1.out b e rfl) ?_ (by omega)
        · exact D2.out k e k (by simp [hk]) rfl
        · have := HN.out
          rw [e1, List.append_assoc] at this
          exact (List.nodup_append.1 this).2.1
      go_wp2_with (first
        | (go_at_call 16; (with_reducible refine C1.out.mono ?_); rintro _ w2 ⟨rfl, rfl⟩)
        | (go_at_call 35; (with_reducible refine L1.out.mono ?_); rintro _ w3 ⟨a, c, rfl, h1, h2, h3, h4, h5⟩; have E1 := hidden h1; have E2 := hidden h2; have E3 := hidden h3; have E4 := hidden h4; have E5 := hidden h5; clear h1 h2 h3 h4 h5)
        | (go_at_call 36; (with_reducible refine (J.out a c w3 E1.out E2.out E4.out E5.out).mono ?_); rintro _ w4 ⟨t', rfl, k1, k2, k3⟩; have F1 := hidden k1; have F2 := hidden k2; have F3 := hidden k3; clear k1 k2 k3))
      go_ret2
      obtain ⟨e1, e2⟩ := parts E1.out E2.out
      have hs := l.sz_seq
      refine ⟨a, t', rfl, ?_, ?_, E3.out.tw F3.out (fun k hk e => ?_), F2.out, ?_⟩
      · rw [E1.out, T.seq, List.take_append_of_le_length (by omega)]
      · rw [F1.out, E2.out, T.seq, List.drop_append_of_le_length (by omega)]
      · have := HN.out
        rw [e1, List.append_assoc] at this
        exact (List.nodup_append.1 this).2.2 k hk k e rfl
      · rw [T.blocks_node]
        exact ((HT2.out.mono (by simp)).trans (E5.out.mono (by intro k hk; simp [hk]))).trans (F3.out.mono (by rw [e1]; intro k hk; simp at hk ⊢; rcases hk with hk | hk | hk <;> simp [hk]))
    · have J : Hid (∀ (a c : T) w3, a.seq = r.seq.take (i - (l.sz : Int) - 1).toNat → c.seq = r.seq.drop (i - (l.sz : Int) - 1).toNat → a.Rep w3 → Tw r.blocks w2 w3 → Calls Try.prog 36 #[l.ptr, .pointer (some ⟨b, 0, none⟩), a.ptr] w3 (JoinOK w3 l b g a)) := fun a c w3 h1 h2 h3 h4 => by
        obtain ⟨e1, e2⟩ := parts h1 h2
        refine join_any l a b g w3 (HW2.out.2.1.tw h4 fun k hk e => ?_) h3 (HW2.out.raw.tw h4 D3.out) ?_ (by omega)
        · exact D2.out k hk k (by simp [e]) rfl
        · have := HN.out
          rw [e1, show l.blocks ++ b :: (a.blocks ++ c.blocks) = (l.blocks ++ b :: a.blocks) ++ c.blocks by simp] at this
          exact (List.nodup_append.1 this).1
      go_wp2_with (first
        | (go_at_call 16; (with_reducible refine C1.out.mono ?_); rintro _ w2 ⟨rfl, rfl⟩)
        | (go_at_call 35; (with_reducible refine (R1.out (by omega)).mono ?_); rintro _ w3 ⟨a, c, rfl, h1, h2, h3, h4, h5⟩; have E1 := hidden h1; have E2 := hidden h2; have E3 := hidden h3; have E4 := hidden h4; have E5 := hidden h5; clear h1 h2 h3 h4 h5)
        | (go_at_call 36; (with_reducible refine (J.out a c w3 E1.out E2.out E3.out E5.out).mono ?_); rintro _ w4 ⟨t', rfl, k1, k2, k3⟩; have F1 := hidden k1; have F2 := hidden k2; have F3 := hidden k3; clear k1 k2 k3))
      go_ret2
      obtain ⟨e1, e2⟩ := parts E1.out E2.out
      have hs := l.sz_seq
      obtain ⟨k, hk⟩ : ∃ k : Nat, i.toNat = l.seq.length + (k + 1) := ⟨(i - (l.sz : Int) - 1).toNat, by omega⟩
      have hk' : (i - (l.sz : Int) - 1).toNat = k := by omega
      refine ⟨t', c, rfl, ?_, ?_, F2.out, E4.out.tw F3.out (fun k hk e => ?_), ?_⟩
      · rw [F1.out, E1.out, T.seq, hk, List.take_append, hk']
        simp [List.take_of_length_le]
      · rw [E2.out, T.seq, hk, List.drop_append, hk']
        simp [List.drop_of_length_le]
      · have := HN.out
        rw [e1, show l.blocks ++ b :: (a.blocks ++ c.blocks) = (l.blocks ++ b :: a.blocks) ++ c.blocks by simp] at this
        exact (List.nodup_append.1 this).2.2 k e k hk rfl
      · rw [T.blocks_node]
        exact ((HT2.out.mono (by simp)).trans (E5.out.mono (by intro k hk; simp [hk]))).trans (F3.out.mono (by rw [e1]; intro k hk; simp at hk ⊢; rcases hk with hk | hk | hk <;> simp [hk]))
end Go.Proofs.Qxb6500688a
