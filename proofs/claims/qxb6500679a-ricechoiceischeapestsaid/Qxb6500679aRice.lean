import Derived.Test.Qxb6500679aLaw
import Derived.ProofKit
import Derived.Deep.Slices
import Derived.OpenShut
namespace Go.Proofs.Qxb6500679a
open Go.ChangeShapes Go.WideShapes Go.ChangeAt Go.RowKit
theorem Try.own : ownKnob Try.prog.godebug = none := by kernel_rfl
theorem Try.laidOut : laidOutB Try.prog = true := by kernel_rfl
theorem cells47 : Try.prog.cellsOf 47 = 4 := by kernel_rfl
theorem cells45 : Try.prog.cellsOf 45 = 1 := by kernel_rfl
theorem cells2 : Try.prog.cellsOf 2 = 1 := by kernel_rfl
theorem cells3 : Try.prog.cellsOf 3 = 1 := by kernel_rfl
theorem plain_cell {w : World} {a : Addr} {v : Value} (h : w.cell? a = some v) : a = ⟨a.block, a.off, none⟩ ∧ a.block < w.heap.size := by
  obtain ⟨b, o, s⟩ := a
  unfold World.cell? at h
  simp only at h
  split at h
  · rename_i c t m hb
    cases s with
    | none => exact ⟨rfl, (Array.getElem?_eq_some_iff.1 hb).1⟩
    | some _ => simp at h
  · cases h
theorem script_of {H : Type} {enc : TypeId × Value → H} {W : World} {v : Value} {d : DataW H} {p : List MemPlace} (hsl : ∃ a len cap, v = .slice a len cap) (h : DataW.Trod enc Try.prog W 0 (fun _ => true) true 22 v d p) : ∃ n, Script W v n := by
  obtain ⟨a0, len, cap, rfl⟩ := hsl
  obtain ⟨fuel, hf⟩ := h
  rcases Go.Deep.open_slice Try.underlying22 hf with ⟨hcs, hx⟩ | ⟨a, len', cap', m, k, D, Pl, hcs, _, hl, hm, hmm, hx, hall⟩
  · simp [Value.cells] at hcs
    obtain ⟨rfl, rfl, rfl⟩ := hcs
    exact ⟨0, none, 0, rfl, fun h => by omega⟩
  · simp [Value.cells] at hcs
    obtain ⟨rfl, rfl, rfl⟩ := hcs
    simp at hmm
    rw [cells47] at hall
    have each : ∀ i, i < len → ∃ k x y z : Int, W.cell? (a.add (i * 4)) = some (.int .u8 k) ∧ W.cell? (a.add (i * 4 + 1)) = some (.int .i64 x) ∧ W.cell? (a.add (i * 4 + 2)) = some (.int .i64 y) ∧ W.cell? (a.add (i * 4 + 3)) = some (.int .i64 z) ∧
        0 ≤ k ∧ k ≤ 255 ∧ (-9223372036854775808 ≤ x ∧ x ≤ 9223372036854775807) ∧ (-9223372036854775808 ≤ y ∧ y ≤ 9223372036854775807) ∧ (-9223372036854775808 ≤ z ∧ z ≤ 9223372036854775807) := fun i hi => by
      obtain ⟨cs', h1, h2⟩ := hall i (by omega)
      obtain ⟨_, hlen, hcell⟩ := World.cells?_some h1
      obtain ⟨xs, n, _, _, _, hxl, hfl⟩ := DataW.trod_struct Try.underlying47 h2
      match xs, hxl, cs', hlen with
      | [y0, y1, y2, y3], _, [v0, v1, v2, v3], _ =>
        have g0 := hfl 0 _ rfl
        have g1 := hfl 1 _ rfl
        have g2 := hfl 2 _ rfl
        have g3 := hfl 3 _ rfl
        simp [cells45, cells2, cells3] at g0 g1 g2 g3
        obtain ⟨n0, e0, _, b0⟩ := DataW.trod_int Try.underlying45 g0
        obtain ⟨n1, e1, _, b1⟩ := DataW.trod_int Try.underlying2 g1
        obtain ⟨n2, e2, _, b2⟩ := DataW.trod_int Try.underlying2 g2
        obtain ⟨n3, e3, _, b3⟩ := DataW.trod_int Try.underlying3 g3
        simp at e0 e1 e2 e3
        have c0 := hcell 0 (by omega)
        have c1 := hcell 1 (by omega)
        have c2 := hcell 2 (by omega)
        have c3 := hcell 3 (by omega)
        rw [Go.Deep.add_add] at c0 c1 c2 c3
        simp [e0, e1, e2, e3] at c0 c1 c2 c3
        exact ⟨n0, n1, n2, n3, c0, c1, c2, c3, (bounds_u8 b0).1, (bounds_u8 b0).2, bounds_i64 b1, bounds_i64 b2, bounds_i64 b3⟩
    refine ⟨len, some a, cap, rfl, fun hp => ?_⟩
    obtain ⟨k0, _, _, _, f0, _⟩ := each 0 hp
    have ha := plain_cell (a := a) (by simpa [Addr.add] using f0)
    obtain ⟨b, off, s⟩ := a
    obtain ⟨hs, hb⟩ := ha
    simp at hs hb
    subst hs
    refine ⟨b, off, rfl, hb, fun i hi => ?_⟩
    obtain ⟨k, x, y, z, f0, f1, f2, f3, hr⟩ := each i hi
    simp only [add_plain, ← Nat.add_assoc] at f0 f1 f2 f3
    exact ⟨k, x, y, z, f0, f1, f2, f3, hr⟩
set_option maxRecDepth 100000 in
theorem rice_lifted (os : Os) (started : os.Started) (H : Type) (enc : TypeId × Value → H) :
    ReturnsInHanded {} Try.checked os 3 .any (Rows.riceChoiceIsCheapestSpec.pre6 enc Try.prog Try.f3 Rows.riceChoiceIsCheapestRow.domain false) (Rows.riceChoiceIsCheapestSpec.post enc Try.prog Try.f3 false true false false) := by
  refine returnsInHanded_of_change (C := Try.checked) Try.own started (by kernel_rfl) Try.func3
    (ChangeSpec.witness6 (enc := enc) (C := Try.checked) false ⟨#[], #[.slice none 0 0], []⟩ 8 (by kernel_rfl) (by kernel_rfl) (by kernel_rfl) (by kernel_rfl)) ?_
  intro W base args ds gs before hval0 hW _ _
  have hval : ∀ (j : Nat) t v, Try.f3.params[j]? = some t → args[j]? = some v → Value.okWide Try.prog W .any base t v := hval0
  have hW' := hW
  obtain ⟨p, q, hA0, hV, rfl, _, _⟩ := hW
  have hA : DataW.TrodAll enc Try.prog W 0 (fun _ => true) true Try.f3.params.toList args.toList ds p := hA0
  rw [Try.params3] at hA hval
  obtain ⟨v0, d0, rfl, rfl, h0⟩ := trodAll_one hA
  obtain ⟨rfl, rfl⟩ := trodVars_none hV
  clear hA0 hval0
  simp only [List.append_nil] at hW'
  have hlt : ∀ x ∈ p, x.block < W.heap.size := fun x hx => by simpa using hW'.lt x hx
  obtain ⟨n, hs⟩ := script_of (okWide_slice Try.underlying22 (hval 0 22 v0 rfl rfl)) h0
  refine (law_any v0 n W hs).mono fun e W' ⟨he, x, hw⟩ => ?_
  subst he
  subst hw
  have hb := ext_below W x
  have hargs : DataW.Trod enc Try.prog (ext W x) 0 (fun b => decide (b < W.heap.size)) true 22 v0 d0 p :=
    Below.trod Try.laidOut (by kernel_rfl) (of_decide_eq_true (by kernel_rfl)) h0 hb hlt
  exact ⟨_, rfl, ⟨_, _, _, [], _, [], hW', trodAll_mk1 (shut_bool (b := true) Try.underlying4), trodAll_mk1 hargs, rfl, hb.frame _, fun h => by cases h⟩⟩
theorem riceChoiceIsCheapest_holds : Rows.RiceChoiceIsCheapestSaid :=
  OpenClaim.holds_of_wide 3 Try.f3 rfl rfl rfl rfl rfl rfl rfl ⟨rfl, rfl, rfl, rfl, rfl⟩ rfl rfl rfl rfl rfl (by kernel_rfl) Try.func3 (by kernel_rfl)
    (of_decide_eq_true (by kernel_rfl)) (by unfold Func.isWrapper; rw [if_neg (by decide +kernel)]; exact ⟨rfl, rfl⟩)
    (fun os started H enc _ => rice_lifted os started H enc)
end Go.Proofs.Qxb6500679a
