import Derived.Test.Qxb6500688aLaw
import Derived.Test.Qxb6500688aOpen
namespace Go.Proofs.Qxb6500688a
open Go.ChangeShapes Go.WideShapes Go.ChangeAt Go.RowKit
set_option maxRecDepth 100000 in
theorem cursors_lifted (os : Os) (started : os.Started) (H : Type) (enc : TypeId × Value → H) :
    ReturnsInHanded {} Try.checked os 3 .any (Rows.cursorsNoticeChangesSpec.pre6 enc Try.prog Try.f3 Rows.cursorsNoticeChangesRow.domain false) (Rows.cursorsNoticeChangesSpec.post enc Try.prog Try.f3 false true false false) := by
  refine returnsInHanded_of_change_sized (C := Try.checked) Try.own started (by kernel_rfl) Try.func3
    (ChangeSpec.witness6 (enc := enc) (C := Try.checked) false ⟨#[], #[.slice none 0 0], []⟩ 8 (by kernel_rfl) (by kernel_rfl) (by kernel_rfl) (by kernel_rfl)) ?_
  intro W base args ds gs before hval0 hW _ hz _
  have hval : ∀ (j : Nat) t v, Try.f3.params[j]? = some t → args[j]? = some v → Value.okWide Try.prog W .any base t v := hval0
  have hW' := hW
  obtain ⟨p, q, hA0, hV, rfl, _, _⟩ := hW
  have hA : DataW.TrodAll enc Try.prog W 0 (fun _ => true) true Try.f3.params.toList args.toList ds p := hA0
  have hz1 : (DataW.weightsEach Try.prog (Try.f3.params.toList ++ Rows.cursorsNoticeChangesSpec.plain.varTypes Try.prog) (ds ++ gs)).all (· ≤ reachBytes) = true := hz
  rw [Try.params3] at hA hval hz1
  obtain ⟨v0, d0, rfl, rfl, h0⟩ := trodAll_one hA
  obtain ⟨rfl, rfl⟩ := trodVars_none hV
  clear hA0 hval0
  simp only [List.append_nil] at hW'
  have hlt : ∀ x ∈ p, x.block < W.heap.size := fun x hx => by simpa using hW'.lt x hx
  have hz2 : ∀ y ∈ d0.weights Try.prog 22, y ≤ reachBytes := fun y hy => by
    rw [List.all_eq_true] at hz1
    have := hz1 y (by simp [DataW.weightsEach, hy])
    simpa using this
  obtain ⟨n, hn, hs⟩ := script_of (okWide_slice Try.underlying22 (hval 0 22 v0 rfl rfl)) h0 hz2
  refine (law_any v0 n W hs hn).mono fun e W' ⟨he, x, hw⟩ => ?_
  subst he
  subst hw
  have hb := ext_below W x
  have hargs : DataW.Trod enc Try.prog (ext W x) 0 (fun b => decide (b < W.heap.size)) true 22 v0 d0 p :=
    Below.trod Try.laidOut (by kernel_rfl) (of_decide_eq_true (by kernel_rfl)) h0 hb hlt
  exact ⟨_, rfl, ⟨_, _, _, [], _, [], hW', trodAll_mk1 (shut_bool (b := true) Try.underlying4), trodAll_mk1 hargs, rfl, hb.frame _, fun h => by cases h⟩⟩
theorem cursorsNoticeChanges_holds : Rows.CursorsNoticeChangesSaid :=
  OpenClaim.holds_of_wide 3 Try.f3 rfl rfl rfl rfl rfl rfl rfl ⟨rfl, rfl, rfl, rfl, rfl⟩ rfl rfl rfl rfl rfl (by kernel_rfl) Try.func3 (by kernel_rfl)
    (of_decide_eq_true (by kernel_rfl)) (by unfold Func.isWrapper; rw [if_neg (by decide +kernel)]; exact ⟨rfl, rfl⟩)
    (fun os started H enc _ => cursors_lifted os started H enc)
end Go.Proofs.Qxb6500688a
