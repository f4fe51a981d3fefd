import Derived.Test.Qxb6500680aDoorLaw
import Derived.Test.Qxb6500680aDoorTie
import Derived.Test.Qxb6500680aDoorCards
import Derived.ProofKit
import Derived.LaidMore
import Derived.OpenShut
import Derived.Stop.Joined
import Derived.Deep.Strs
import Derived.SevenTiedAt
namespace Go.Proofs.Qxb6500680aDoor
open Go.ChangeShapes Go.WideShapes Go.ChangeAt Go.WideMaps Go.WideElems Go.RowKit Go.Deep

theorem own : ownKnob Tryd.prog.godebug = none := by kernel_rfl
/-- The name of the listed variable number i. -/
def laidName (i : Nat) : String := ((Rows.everyExponentHoldsRow.laid[i]?).map (·.1)).getD ""
theorem gB32 : Tryd.prog.globalNamed (laidName 2) = some 2 := by kernel_rfl
theorem gB64 : Tryd.prog.globalNamed (laidName 3) = some 3 := by kernel_rfl
theorem tB32 : (Tryd.prog.globals[2]?).map (·.type) = some 33 := by kernel_rfl
theorem tB64 : (Tryd.prog.globals[3]?).map (·.type) = some 33 := by kernel_rfl
theorem c31 : Tryd.prog.cellsOf 31 = 1 := by kernel_rfl
theorem c33 : Tryd.prog.cellsOf 33 = 3 := by kernel_rfl

theorem door_met (os : Os) (args : Array Value) : laidMetH Tryd.prog Rows.everyExponentHoldsRow.laid ((World.doorLaid Tryd.prog 76 os).forCall (fun _ _ => 0) ⟨#[], args, []⟩).memory :=
  laidMetH_of_parts3 (fuel := 8) (laidMet_of_run' 8 (by kernel_rfl) (by kernel_rfl)) (by kernel_rfl) (by kernel_rfl)

/-- A format read as three numbers lies in three cells. -/
theorem format_cells {W : World} {fuel : Nat} {cs : Array Value} {a b c : Int} {ps : List MemPlace} {name : String} {g : Nat} (hg : Tryd.prog.globalNamed name = some g) (hv : W.var? Tryd.prog name = some cs)
    (hd : DataW.trod (fun _ => ()) Tryd.prog W 0 (fun _ => true) false fuel 33 cs.toList = some (.agg [.lit (.int .u64 a), .lit (.int .u64 b), .lit (.int .u64 c)], ps)) :
    W.cell? ⟨g, 0, none⟩ = some (.int .u64 a) ∧ W.cell? ⟨g, 1, none⟩ = some (.int .u64 b) ∧ W.cell? ⟨g, 2, none⟩ = some (.int .u64 c) := by
  obtain ⟨y0, y1, y2, n, hx, hl, h0, h1, h2⟩ := trod_struct3 Tryd.underlying33 hd
  rw [c33] at hl
  have e0 := World.var?_cell hg hv 0
  have e1 := World.var?_cell hg hv 1
  have e2 := World.var?_cell hg hv 2
  obtain ⟨l⟩ := cs
  match l, hl with
  | [v0, v1, v2], _ =>
    simp only [c31] at h0 h1 h2
    obtain ⟨k0, a0, a1, _⟩ := DataW.trod_int Tryd.underlying31 h0
    obtain ⟨k1, b0, b1, _⟩ := DataW.trod_int Tryd.underlying31 h1
    obtain ⟨k2, d0, d1, _⟩ := DataW.trod_int Tryd.underlying31 h2
    simp at a0 b0 d0
    subst a0 b0 d0 a1 b1 d1
    simp at hx
    obtain ⟨⟨rfl, rfl, rfl⟩, _⟩ := hx
    exact ⟨by simpa using e0, by simpa using e1, by simpa using e2⟩

theorem of_laid {W : World} (h : laidMetH Tryd.prog Rows.everyExponentHoldsRow.laid W) : Glob W := by
  rw [MakeChecks.laidMetH_plain _ _ _ (by kernel_rfl)] at h
  obtain ⟨ps, ⟨g0, t0, cs0, f0, p0, q0, hg0, ht0, hv0, hd0, ⟨g1, t1, cs1, f1, p1, q1, hg1, ht1, hv1, hd1, ⟨g2, t2, cs2, f2, p2, q2, hg2, ht2, hv2, hd2, ⟨g3, t3, cs3, f3, p3, q3, hg3, ht3, hv3, hd3, _, _⟩, _⟩, _⟩, _⟩, _, _⟩ := h
  obtain rfl := Option.some.inj (gB32.symm.trans hg2)
  obtain rfl := Option.some.inj (gB64.symm.trans hg3)
  obtain rfl := Option.some.inj (tB32.symm.trans ht2)
  obtain rfl := Option.some.inj (tB64.symm.trans ht3)
  obtain ⟨a0, a1, a2⟩ := format_cells hg2 hv2 hd2
  obtain ⟨b0, b1, b2⟩ := format_cells hg3 hv3 hd3
  exact ⟨a0, a1, a2, b0, b1, b2⟩

set_option maxRecDepth 100000 in
theorem lifted (os : Os) (started : os.Started) (H : Type) (enc : TypeId × Value → H) :
    ReturnsInHanded {} Tryd.checked os 3 .any (fun w args => (Rows.everyExponentHoldsSpec.pre enc Tryd.prog Tryd.f3 [] false w args ∧ laidMetH Tryd.prog Rows.everyExponentHoldsRow.laid w) ∧ sizedMet enc Tryd.prog Tryd.f3 (OpenSpec.ofChange Rows.everyExponentHoldsSpec) false w args)
      (Rows.everyExponentHoldsSpec.post enc Tryd.prog Tryd.f3 false true false false) := by
  refine returnsInHanded_of_change_and (C := Tryd.checked) (X := fun w _ => laidMetH Tryd.prog Rows.everyExponentHoldsRow.laid w) (fun _ _ _ hh h => h.of_heap hh) own started (by kernel_rfl) Tryd.func3
    (ChangeSpec.witness_shaped (enc := enc) (C := Tryd.checked) (os := os) (X := fun w _ => laidMetH Tryd.prog Rows.everyExponentHoldsRow.laid w) false (World.doorLaid Tryd.prog 76 os) #[] 8 rfl (World.shaped_of_RefB (by kernel_rfl) (by kernel_rfl)) (by kernel_rfl) (by kernel_rfl) (by kernel_rfl) (door_met os _)) ?_
  intro W base args ds gs before hval0 hW _ _ hL _
  have hW' := hW
  obtain ⟨p, q, hA0, hV, rfl, hfz, hnd⟩ := hW
  have hA : DataW.TrodAll enc Tryd.prog W 0 (fun _ => true) true Tryd.f3.params.toList args.toList ds p := hA0
  rw [Tryd.params3] at hA
  obtain ⟨rfl, rfl, rfl⟩ := trodAll_none hA
  obtain ⟨rfl, rfl⟩ := trodVars_none hV
  clear hA0 hval0
  refine (law_any W (of_laid hL)).mono fun e W' ⟨he, x, hw⟩ => ?_
  subst he; subst hw
  refine ⟨_, rfl, _, _, _, [], [], [], hW', ?_, ?_, ?_, (ext_below W x).frame _, fun h => by cases h⟩
  · exact trodAll_mk1 (shut_bool Tryd.underlying4 true)
  · exact trodAll_mk0
  · rfl

theorem everyExponentHolds_holds : Rows.EveryExponentHoldsSaid :=
  OpenClaim.holds_of_wide 3 Tryd.f3 rfl rfl rfl rfl rfl rfl rfl ⟨rfl, rfl, rfl, rfl, rfl⟩ rfl rfl rfl rfl rfl (by kernel_rfl) Tryd.func3 (by kernel_rfl)
    (of_decide_eq_true (by kernel_rfl)) (by unfold Func.isWrapper; rw [if_neg (of_decide_eq_false (by kernel_rfl))]; exact ⟨rfl, rfl⟩)
    (fun os started H enc _ => lifted os started H enc)

theorem everyExponentHolds_card : Rows.EveryExponentHoldsCardSaid :=
  Claim7.holds_tied_plain_at .later [] [.sentinel, .sentinel, .wider, .wider, .sentinel] true (true, "89484e5b1fbf3e9509126ef8081773acffd164ede04a1eec716bf95623fce8fd") false
    everyExponentHolds_holds (fun _ h => by cases h) (by kernel_rfl) (fun _ h => by cases h) everyExponentHolds_row_tie rfl ⟨rfl, rfl⟩ (by kernel_rfl) rfl
    (fun f fn hf hfn => by
      obtain rfl : f = 3 := Option.some.inj ((show Tryd.prog.funcNamed Rows.everyExponentHoldsRow.func = some 3 by kernel_rfl).symm.trans hf) |>.symm
      obtain rfl : fn = Tryd.f3 := (Option.some.inj (Tryd.func3.symm.trans hfn)).symm
      exact ⟨by kernel_rfl, fun j t ht => by
        rw [Tryd.params3] at ht
        simp at ht⟩)
    (by kernel_rfl)
end Go.Proofs.Qxb6500680aDoor
