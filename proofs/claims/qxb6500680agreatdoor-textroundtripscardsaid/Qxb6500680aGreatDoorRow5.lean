import Derived.Test.Qxb6500680aGreatDoorLa5
import Derived.Test.Qxb6500680aGreatDoorLaid
namespace Go.Proofs.Qxb6500680aGreatDoor
open Go.ChangeShapes Go.WideShapes Go.ChangeAt Go.WideMaps Go.WideElems Go.RowKit Go.Deep
theorem textRoundTrips_met (os : Os) (args : Array Value) : laidMetH Tryz.prog Rows.textRoundTripsRow.laid ((World.doorLaid Tryz.prog 110 os).forCall (fun _ _ => 0) ⟨#[], args, []⟩).memory :=
  laidMetH_of_parts3 (fuel := 8) (laidMet_of_run' 8 (by kernel_rfl) (by kernel_rfl)) (by kernel_rfl) (by kernel_rfl)
set_option maxRecDepth 100000 in
theorem textRoundTrips_laid {W : World} (h : laidMetH Tryz.prog Rows.textRoundTripsRow.laid W) (hsh : W.ShapedOpen Tryz.prog) : Gw W ∧ Lib.TabIs Tryz.prog W "internal/strconv.uint64pow10" .u64 Lib.pow10Tab := by
  rw [MakeChecks.laidMetH_plain _ _ _ (by kernel_rfl)] at h
  obtain ⟨ps, ⟨g0, t0, cs0, f0, p0, q0, hg0, ht0, hv0, hd0, ⟨g1, t1, cs1, f1, p1, q1, hg1, ht1, hv1, hd1, ⟨g2, t2, cs2, f2, p2, q2, hg2, ht2, hv2, hd2, ⟨g3, t3, cs3, f3, p3, q3, hg3, ht3, hv3, hd3, ⟨g4, t4, cs4, f4, p4, q4, hg4, ht4, hv4, hd4, ⟨g5, t5, cs5, f5, p5, q5, hg5, ht5, hv5, hd5, _, _⟩, _⟩, _⟩, _⟩, _⟩, _⟩, _, _⟩ := h
  obtain rfl := Option.some.inj (gB32.symm.trans hg3)
  obtain rfl := Option.some.inj (gB64.symm.trans hg4)
  obtain rfl := Option.some.inj (gPow.symm.trans hg2)
  obtain rfl := Option.some.inj (tB32.symm.trans ht3)
  obtain rfl := Option.some.inj (tB64.symm.trans ht4)
  obtain rfl := Option.some.inj (tPow.symm.trans ht2)
  obtain ⟨a0, a1, a2⟩ := format_cells hg3 hv3 hd3
  obtain ⟨b0, b1, b2⟩ := format_cells hg4 hv4 hd4
  refine ⟨gw_of hsh a0 a1 a2 b0 b1 b2, ?_⟩
  have hc := Lib.cells_of_tab (zs := Lib.pow10Tab) (k := .u64) uPow Tryz.underlying27 cells27 cPow hd2
  unfold Lib.TabIs
  rw [hv2, ← hc]
set_option maxRecDepth 100000 in
theorem textRoundTrips_lifted (os : Os) (started : os.Started) (H : Type) (enc : TypeId × Value → H) :
    ReturnsInHanded {} Tryz.checked os 5 .any (fun w args => (Rows.textRoundTripsSpec.pre enc Tryz.prog Tryz.f5 [] false w args ∧ laidMetH Tryz.prog Rows.textRoundTripsRow.laid w) ∧ sizedMet enc Tryz.prog Tryz.f5 (OpenSpec.ofChange Rows.textRoundTripsSpec) false w args)
      (Rows.textRoundTripsSpec.post enc Tryz.prog Tryz.f5 false true false false) := by
  refine lift_laid (C := Tryz.checked) own started (by kernel_rfl) Tryz.func5
    (ChangeSpec.witness_shaped (enc := enc) (C := Tryz.checked) (os := os) (X := fun w _ => laidMetH Tryz.prog Rows.textRoundTripsRow.laid w) false (World.doorLaid Tryz.prog 110 os) #[.slice none 0 0] 8 rfl (World.shaped_of_RefB (by kernel_rfl) (by kernel_rfl)) (by kernel_rfl) (by kernel_rfl) (by kernel_rfl) (textRoundTrips_met os _)) ?_
  intro W base args ds gs before hval0 hW hL hsh
  have hval : ∀ (j : Nat) t v, Tryz.f5.params[j]? = some t → args[j]? = some v → Value.okWide Tryz.prog W .any base t v := hval0
  have hW' := hW
  obtain ⟨p, q, hA0, hV, rfl, _, _⟩ := hW
  have hA : DataW.TrodAll enc Tryz.prog W 0 (fun _ => true) true Tryz.f5.params.toList args.toList ds p := hA0
  rw [Tryz.params5] at hA hval
  obtain ⟨v0, d0, rfl, rfl, h0⟩ := trodAll_one hA
  obtain ⟨rfl, rfl⟩ := trodVars_none hV
  clear hA0 hval0
  simp only [List.append_nil] at hW'
  have hlt : ∀ x ∈ p, x.block < W.heap.size := fun x hx => by simpa using hW'.lt x hx
  obtain ⟨n, hn, hs⟩ := scr_of (okWide_slice Tryz.underlying22 (hval 0 22 v0 rfl rfl)) h0
  obtain ⟨hgw, htab⟩ := textRoundTrips_laid hL hsh
  refine (law5 v0 n W hs hn hgw htab).mono fun e W' ⟨he, x, hw⟩ => ?_
  subst he
  subst hw
  have hb := ext_below W x
  have hargs : DataW.Trod enc Tryz.prog (ext W x) 0 (fun b => decide (b < W.heap.size)) true 22 v0 d0 p :=
    Below.trod laidOut (by kernel_rfl) (of_decide_eq_true (by kernel_rfl)) h0 hb hlt
  exact ⟨_, rfl, ⟨_, _, _, [], _, [], hW', trodAll_mk1 (shut_bool (b := true) Tryz.underlying4), trodAll_mk1 hargs, rfl, hb.frame _, fun h => by cases h⟩⟩
theorem textRoundTrips_holds : Rows.TextRoundTripsSaid :=
  OpenClaim.holds_of_wide 5 Tryz.f5 rfl rfl rfl rfl rfl rfl rfl ⟨rfl, rfl, rfl, rfl, rfl⟩ rfl rfl rfl rfl rfl (by kernel_rfl) Tryz.func5 (by kernel_rfl)
    (of_decide_eq_true (by kernel_rfl)) (by unfold Func.isWrapper; rw [if_neg (of_decide_eq_false (by kernel_rfl))]; exact ⟨rfl, rfl⟩)
    (fun os started H enc _ => textRoundTrips_lifted os started H enc)
theorem textRoundTrips_card : Rows.TextRoundTripsCardSaid :=
  Claim7.holds_tied_plain_at .later [] [.data, .data, .data, .wider, .wider, .sentinel] true (true, "bc30e7aaa1f6196fb61e32f41cba15c3710d5bc92e2cb64de43c40be3a6a4ca4") false
    textRoundTrips_holds (fun _ h => by cases h) (by kernel_rfl) (fun _ h => by cases h) textRoundTrips_row_tie rfl ⟨rfl, rfl⟩ (by kernel_rfl) rfl
    (fun f fn hf hfn => by
      obtain rfl : f = 5 := Option.some.inj ((show Tryz.prog.funcNamed Rows.textRoundTripsRow.func = some 5 by kernel_rfl).symm.trans hf) |>.symm
      obtain rfl : fn = Tryz.f5 := (Option.some.inj (Tryz.func5.symm.trans hfn)).symm
      exact ⟨by kernel_rfl, fun j t ht => by
        rw [Tryz.params5] at ht
        have h3 : t = 22 := by
          rcases j with _ | j
          · simpa using ht.symm
          · simp at ht
        subst h3
        exact (show Tryz.prog.wantsStandIn 22 = false by kernel_rfl)⟩)
    (by kernel_rfl)
end Go.Proofs.Qxb6500680aGreatDoor
