import Derived.Test.Qxb6500688aSc
namespace Go.Proofs.Qxb6500688a
open Go.RowKit Go.BigFrame
set_option linter.unusedSimpArgs false
theorem Tw.cells {S : List Nat} {w : World} {g : Nat} (hb : g ∈ S) : ∀ (vs : List Value) (o : Nat) (w1 : World), Tw S w w1 → Tw S w (w1.setCells g o vs)
  | [], _, _, h => h
  | v :: r, o, _, h => Tw.cells hb r (o + 1) _ (h.set hb o v)
theorem Tw.new {S S2 : List Nat} {w w1 w2 : World} (h : Tw S w w1) (h2 : Tw S2 w1 w2) (hs : ∀ k ∈ S2, k ∈ S ∨ w.heap.size ≤ k) : Tw S w w2 := by
  refine ⟨Nat.le_trans h.1 h2.1, fun k hk hn => (h2.2.1 k (by have := h.1; omega) fun e => ?_).trans (h.2.1 k hk hn), fun B w0 hg hb => h2.2.2 B w0 (h.2.2 B w0 hg hb) fun k hk => ?_⟩
  · rcases hs k e with h3 | h3
    · exact hn h3
    · omega
  · rcases hs k hk with h3 | h3
    · exact hb k h3
    · have := hg.2; omega
/-- The same by cells. -/
def Rc (w : World) (g N S : Nat) : Prop := ∃ cur, w.heap[g]? = some (.cells cur 41) ∧ cur.size = S ∧ ∀ j, j < N → ∃ z : Int, cur[j]? = some (.int .i64 z) ∧ (-9223372036854775808 ≤ z ∧ z ≤ 9223372036854775807)
theorem Rc.push {w : World} {g N S : Nat} (h : Rc w g N S) (hS : N < S) {u : Value} (hu : I64 u) : Rc (w.setCell ⟨g, N, none⟩ u) g (N + 1) S := by
  obtain ⟨cur, h1, h2, h4⟩ := h
  refine ⟨_, blk_set h1 N _, by simpa using h2, fun k hk => ?_⟩
  by_cases e : N = k
  · subst e
    obtain ⟨z, rfl, hz⟩ := hu
    exact ⟨z, by rw [Array.getElem?_setIfInBounds_self_of_lt (by omega)], hz⟩
  · obtain ⟨y, hy, hb⟩ := h4 k (by omega)
    exact ⟨y, by rw [Array.getElem?_setIfInBounds_ne e]; exact hy, hb⟩
theorem Rc.cells {g S : Nat} : ∀ (vs : List Value) (N : Nat) (w : World), Rc w g N S → N + vs.length ≤ S → (∀ u ∈ vs, I64 u) → Rc (w.setCells g N vs) g (N + vs.length) S
  | [], _, _, h, _, _ => h
  | v :: r, N, _, h, hl, hu => by
    have := Rc.cells r (N + 1) _ (h.push (by simp at hl; omega) (hu v (by simp))) (by simp at hl; omega) (fun u h' => hu u (by simp [h']))
    simpa [World.setCells, Nat.add_assoc, Nat.add_comm 1] using this
theorem Rw.app {w : World} {g k m c : Nat} (h : Rw w g k c) {vs : List Value} (hl : vs.length = m * 4) (hm : k + m ≤ c) (hu : ∀ u ∈ vs, I64 u) : Rw (w.setCells g (0 + k * 4) vs) g (k + m) c := by
  obtain ⟨cur, h1, h2, h3, h4⟩ := h
  obtain ⟨cur', g1, g2, g4⟩ := Rc.cells (g := g) (S := c * 4) vs (k * 4) w ⟨cur, h1, h2, h4⟩ (by omega) hu
  exact ⟨cur', by rw [Nat.zero_add]; exact g1, g2, hm, fun j hj => g4 j (by omega)⟩
theorem Rw.over {g n c : Nat} : ∀ (vs : List Value) (o : Nat) (w : World), Rw w g n c → (∀ u ∈ vs, I64 u) → Rw (w.setCells g o vs) g n c
  | [], _, _, h, _ => h
  | v :: r, o, w, h, hu => by
    obtain ⟨z, rfl, hz⟩ := hu v (by simp)
    exact Rw.over r (o + 1) _ (h.set o z hz) (fun u h' => hu u (by simp [h']))
theorem Rw.spare {w : World} {g k c : Nat} (h : Rw w g k c) (j : Nat) (hj : j < c * 4) : (w.cell? ⟨g, j, none⟩).isSome = true ∧ w.frozen? ⟨g, j, none⟩ = false := by
  refine ⟨?_, h.mark j⟩
  obtain ⟨cur, h1, h2, _⟩ := h
  rw [cell_of_cells h1, Array.getElem?_eq_getElem (by omega)]
  rfl
/-- append(v, nil...): nothing is done. -/
theorem wpList_append_none {P : Program} {ops : Array Oper} {rest : List Oper} {o : Oper} {a : Act} {w : World} {Q : Exit → Act → World → Prop} (hgd : o.guard = none) (s x : Operand) (t : TypeId)
    (ho : o.op = .call { callee := .builtin .append, args := #[s, x], argTypes := #[t, t] })
    (e : TypeId) (i : TypeInfo) (ht : P.underlying t = some (.slice e)) (hi : P.info? e = some i)
    (b : Addr) (n c c' : Nat) (hs : a.eval s = .slice (some b) n c) (hx : a.eval x = .slice none 0 c') (hn : n ≤ c)
    (h : wpList P ops Q rest (a.put o.dst (.slice (some b) n c)) w) : wpList P ops Q (o :: rest) a w := by
  refine wpList_plain hgd fun K hK => ?_
  have hr : (Builtin.append_ #[t, t] o.type #[.slice (some b) n c, .slice none 0 c']).run P w = .ok (.slice (some b) n c) w := by
    simp [Builtin.append_, run_underlying ht, sizeOf, typeInfo, hi, Builtin.lenOf, Builtin.firstCells, loadCells, loadCellsFrom, storeCells, hn]
  unfold Oper.wp execOp
  simp only [ho, resolve, invoke, builtin, Sem.run_bind, Sem.run_pure, Result.andThen_ok, List.map_toArray, List.map_cons, List.map_nil, hs, hx, hr]
  exact hK _ _ h
theorem Hk.ext {w : World} {v : Value} {m : Nat} (h : Hk w v m) {w' : World} (hk : Below w.heap.size w w') (hs : w.heap.size ≤ w'.heap.size) : Hk w' v m := by
  obtain ⟨a, c, e, h⟩ := h
  refine ⟨a, c, e, fun hm => ?_⟩
  obtain ⟨b, off, e2, hb, hc⟩ := h hm
  refine ⟨b, off, e2, by omega, fun j hj => ?_⟩
  obtain ⟨z, hz, hr⟩ := hc j hj
  exact ⟨z, (hk.cell (p := ⟨b, off + j, none⟩) hb).trans hz, hr⟩
theorem Hk.gr {w : World} {v : Value} {m : Nat} (h : Hk w v m) {w' : World} (hg : Gr w.heap.size w w') : Hk w' v m := h.ext hg.1 hg.2
/-- append(v, repl...) where there is room. -/
theorem wpList_append_hk {P : Program} {ops : Array Oper} {rest : List Oper} {o : Oper} {a : Act} {w : World} {Q : Exit → Act → World → Prop} (hgd : o.guard = none) (s x : Operand) (t : TypeId)
    (ho : o.op = .call { callee := .builtin .append, args := #[s, x], argTypes := #[t, t] })
    (i : TypeInfo) (z : Value) (ht : P.underlying t = some (.slice 41)) (hi : P.info? 41 = some i) (hz : i.zero = some z) (hsize : i.size = 4) (hby : i.bytes = 32) (hzs : z.cells.size = 4)
    (g k m c : Nat) (v : Value) (hs : a.eval s = .slice (some ⟨g, 0, none⟩) k c) (hx : a.eval x = v) (hh : Hk w v m) (hr : Rw w g k c) (hm : k + m ≤ c) (hc : c ≤ 1000000)
    (h : ∀ w', Rw w' g (k + m) c → (∀ n, Rw w g n c → Rw w' g n c) → Tw [g] w w' → wpList P ops Q rest (a.put o.dst (.slice (some ⟨g, 0, none⟩) (k + m) c)) w') : wpList P ops Q (o :: rest) a w := by
  obtain ⟨ao, co, rfl, hh⟩ := hh
  have fin : ∀ (ad : Addr) (news : List Value), ao = some ad → news.length = m * 4 → (∀ j u, news[j]? = some u → w.cell? (ad.add j) = some u) → (∀ u ∈ news, I64 u) → wpList P ops Q (o :: rest) a w := fun ad news hao hl hn hu => by
    subst hao
    refine wpList_append_arg w hgd s x t ho 41 i z 4 32 ht hi hz hsize hby hzs (by decide) g 0 k c ((List.range (k * 4)).map fun j => (w.cell? ⟨g, 0 + j, none⟩).getD undef) hs (by simp) ?_ ad m co news hx hl hn ?_ ?_ (by unfold maxLen; omega) (by omega) ?_ (fun h' => by omega)
    · intro j u hj
      simp only [List.getElem?_map, Option.map_eq_some_iff, List.getElem?_range] at hj
      obtain ⟨j', hj', rfl⟩ := hj
      rw [List.getElem?_eq_some_iff] at hj'
      obtain ⟨hl', hj'⟩ := hj'
      simp at hl' hj'
      subst hj'
      obtain ⟨z', hz', _⟩ := hr.at j hl'
      rw [Nat.zero_add, hz']; rfl
    · intro u hu'
      obtain ⟨z', rfl, _⟩ := hu u hu'
      rfl
    · intro _ j hj
      rw [Nat.zero_add]
      exact hr.spare _ (by omega)
    · intro _
      exact h _ (hr.app hl hm hu) (fun n hn' => Rw.over news _ w hn' hu) (Tw.cells (by simp) news _ w ((Tw.refl w).mono (by simp)))
  rcases Nat.eq_zero_or_pos m with h0 | h0
  · subst h0
    cases ao with
    | none => exact wpList_append_none hgd s x t ho 41 i ht hi ⟨g, 0, none⟩ k c co hs hx (by omega) (h w hr (fun _ h' => h') ((Tw.refl w).mono (by simp)))
    | some ad => exact fin ad [] rfl rfl (by simp) (by simp)
  · obtain ⟨b, off, rfl, hb, hcs⟩ := hh h0
    refine fin ⟨b, off, none⟩ ((List.range (m * 4)).map fun j => (w.cell? ⟨b, off + j, none⟩).getD undef) rfl (by simp) ?_ ?_
    · intro j u hj
      rw [List.getElem?_eq_some_iff] at hj
      obtain ⟨hl', hj⟩ := hj
      simp at hl' hj
      subst hj
      obtain ⟨z', hz', _⟩ := hcs j hl'
      rw [Addr.add_lit, hz']; rfl
    · intro u hu
      simp at hu
      obtain ⟨j, hj, rfl⟩ := hu
      obtain ⟨z', hz', hr'⟩ := hcs j hj
      rw [hz']; exact ⟨z', rfl, hr'⟩
/-- The row that a call lays for one more hunk. -/
theorem hk_one {w : World} {g : Nat} {a b d e : Int} (h : w.heap[g]? = some (.cells #[.int .i64 a, .int .i64 b, .int .i64 d, .int .i64 e] 41)) (ha : -9223372036854775808 ≤ a ∧ a ≤ 9223372036854775807) (hb : -9223372036854775808 ≤ b ∧ b ≤ 9223372036854775807) (hd : -9223372036854775808 ≤ d ∧ d ≤ 9223372036854775807) (he : -9223372036854775808 ≤ e ∧ e ≤ 9223372036854775807) :
    Hk w (.slice (some ⟨g, 0, none⟩) 1 1) 1 := by
  refine ⟨_, _, rfl, fun _ => ⟨g, 0, rfl, lt_of_cells h, fun j hj => ?_⟩⟩
  rw [Nat.zero_add, cell_of_cells h]
  have hj4 : j = 0 ∨ j = 1 ∨ j = 2 ∨ j = 3 := by omega
  rcases hj4 with rfl | rfl | rfl | rfl
  · exact ⟨a, rfl, ha⟩
  · exact ⟨b, rfl, hb⟩
  · exact ⟨d, rfl, hd⟩
  · exact ⟨e, rfl, he⟩
end Go.Proofs.Qxb6500688a
