import Derived.Test.Qxb6500680aGreatDoorLa8
import Derived.Test.Qxb6500680aGreatDoorUv
import Derived.LaidLaws
import Derived.Test.Qxb6500680aGreatDoorLaid
namespace Go.Proofs.Qxb6500680aGreatDoor
open Go.ChangeShapes Go.WideShapes Go.ChangeAt Go.WideMaps Go.WideElems Go.RowKit Go.Deep
theorem gErr : Tryz.prog.globalNamed "e2e/softfp.ErrMultiplier" = some 0 := by kernel_rfl
theorem tErr : (Tryz.prog.globals[0]?).map (·.type) = some 39 := by kernel_rfl
/-- The law, the short calls being what they are. -/
theorem law8 (sv : Value) (n : Nat) (w : World) (hs : Scr w sv n) (hn : n ≤ 9223372036854775807) (hw : Gw w) (ht : Lib.TabIs Tryz.prog w "internal/strconv.uint64pow10" .u64 Lib.pow10Tab) (he : ∃ (ty : TypeId) (ev : Value), w.cell? ⟨0, 0, none⟩ = some (.iface ty ev)) : Calls Tryz.prog 8 #[sv] w fun e w' => e = .returned (.bool true) ∧ ∃ x, w' = ext w x := by
  obtain ⟨ty, ev, he⟩ := he
  exact law8a (fun k W md ch a b N _ _ _ _ w g t => short32_ok k W md ch a b N w ⟨g, t⟩) (fun k W md ch a b N ha hb h0 h1 w g t => short64_ok k W md ch a b N (Int.ofNat_lt.2 ha) (Int.ofNat_lt.2 hb) h0 h1 w ⟨g, t⟩) sv n w hs hn hw ht ty ev he
theorem shortPathsAgree_met (os : Os) (args : Array Value) : laidMetH Tryz.prog Rows.shortPathsAgreeRow.laid ((World.doorLaid Tryz.prog 110 os).forCall (fun _ _ => 0) ⟨#[], args, []⟩).memory :=
  laidMetH_of_parts3 (fuel := 8) (laidMet_of_run' 8 (by kernel_rfl) (by kernel_rfl)) (by kernel_rfl) (by kernel_rfl)
set_option maxRecDepth 100000 in
theorem shortPathsAgree_laid {W : World} (h : laidMetH Tryz.prog Rows.shortPathsAgreeRow.laid W) (hsh : W.ShapedOpen Tryz.prog) : Gw W ∧ Lib.TabIs Tryz.prog W "internal/strconv.uint64pow10" .u64 Lib.pow10Tab ∧ ∃ (ty : TypeId) (ev : Value), W.cell? ⟨0, 0, none⟩ = some (.iface ty ev) := by
  rw [MakeChecks.laidMetH_plain _ _ _ (by kernel_rfl)] at h
  obtain ⟨ps, ⟨g0, t0, cs0, f0, p0, q0, hg0, ht0, hv0, hd0, ⟨g1, t1, cs1, f1, p1, q1, hg1, ht1, hv1, hd1, ⟨g2, t2, cs2, f2, p2, q2, hg2, ht2, hv2, hd2, ⟨g3, t3, cs3, f3, p3, q3, hg3, ht3, hv3, hd3, ⟨g4, t4, cs4, f4, p4, q4, hg4, ht4, hv4, hd4, ⟨g5, t5, cs5, f5, p5, q5, hg5, ht5, hv5, hd5, ⟨g6, t6, cs6, f6, p6, q6, hg6, ht6, hv6, hd6, _, _⟩, _⟩, _⟩, _⟩, _⟩, _⟩, _⟩, _, _⟩ := h
  obtain rfl := Option.some.inj (gB32.symm.trans hg3)
  obtain rfl := Option.some.inj (gB64.symm.trans hg4)
  obtain rfl := Option.some.inj (gPow.symm.trans hg2)
  obtain rfl := Option.some.inj (tB32.symm.trans ht3)
  obtain rfl := Option.some.inj (tB64.symm.trans ht4)
  obtain rfl := Option.some.inj (tPow.symm.trans ht2)
  obtain ⟨a0, a1, a2⟩ := format_cells hg3 hv3 hd3
  obtain ⟨b0, b1, b2⟩ := format_cells hg4 hv4 hd4
  obtain rfl := Option.some.inj (gErr.symm.trans hg6)
  obtain rfl := Option.some.inj (tErr.symm.trans ht6)
  obtain ⟨_, u, v, hcs, _, _⟩ := iface_of_trod Tryz.underlying39 hd6
  have e0 := World.var?_cell hg6 hv6 0
  refine ⟨gw_of hsh a0 a1 a2 b0 b1 b2, ?_, u, v, ?_⟩
  rotate_left
  · obtain ⟨l⟩ := cs6
    simp only at hcs
    subst hcs
    simpa using e0
  have hc := Lib.cells_of_tab (zs := Lib.pow10Tab) (k := .u64) uPow Tryz.underlying27 cells27 cPow hd2
  unfold Lib.TabIs
  rw [hv2, ← hc]
set_option maxRecDepth 100000 in
theorem shortPathsAgree_lifted (os : Os) (started : os.Started) (H : Type) (enc : TypeId × Value → H) :
    ReturnsInHanded {} Tryz.checked os 8 .any (fun w args => (Rows.shortPathsAgreeSpec.pre enc Tryz.prog Tryz.f8 [] false w args ∧ laidMetH Tryz.prog Rows.shortPathsAgreeRow.laid w) ∧ sizedMet enc Tryz.prog Tryz.f8 (OpenSpec.ofChange Rows.shortPathsAgreeSpec) false w args)
      (Rows.shortPathsAgreeSpec.post enc Tryz.prog Tryz.f8 false true false false) := by
  refine lift_laid (C := Tryz.checked) own started (by kernel_rfl) Tryz.func8
    (ChangeSpec.witness_shaped (enc := enc) (C := Tryz.checked) (os := os) (X := fun w _ => laidMetH Tryz.prog Rows.shortPathsAgreeRow.laid w) false (World.doorLaid Tryz.prog 110 os) #[.slice none 0 0] 8 rfl (World.shaped_of_RefB (by kernel_rfl) (by kernel_rfl)) (by kernel_rfl) (by kernel_rfl) (by kernel_rfl) (shortPathsAgree_met os _)) ?_
  intro W base args ds gs before hval0 hW hL hsh
  have hval : ∀ (j : Nat) t v, Tryz.f8.params[j]? = some t → args[j]? = some v → Value.okWide Tryz.prog W .any base t v := hval0
  have hW' := hW
  obtain ⟨p, q, hA0, hV, rfl, _, _⟩ := hW
  have hA : DataW.TrodAll enc Tryz.prog W 0 (fun _ => true) true Tryz.f8.params.toList args.toList ds p := hA0
  rw [Tryz.params8] at hA hval
  obtain ⟨v0, d0, rfl, rfl, h0⟩ := trodAll_one hA
  obtain ⟨rfl, rfl⟩ := trodVars_none hV
  clear hA0 hval0
  simp only [List.append_nil] at hW'
  have hlt : ∀ x ∈ p, x.block < W.heap.size := fun x hx => by simpa using hW'.lt x hx
  obtain ⟨n, hn, hs⟩ := scr_of (okWide_slice Tryz.underlying22 (hval 0 22 v0 rfl rfl)) h0
  obtain ⟨hgw, htab, herr⟩ := shortPathsAgree_laid hL hsh
  refine (law8 v0 n W hs hn hgw htab herr).mono fun e W' ⟨he, x, hw⟩ => ?_
  subst he
  subst hw
  have hb := ext_below W x
  have hargs : DataW.Trod enc Tryz.prog (ext W x) 0 (fun b => decide (b < W.heap.size)) true 22 v0 d0 p :=
    Below.trod laidOut (by kernel_rfl) (of_decide_eq_true (by kernel_rfl)) h0 hb hlt
  exact ⟨_, rfl, ⟨_, _, _, [], _, [], hW', trodAll_mk1 (shut_bool (b := true) Tryz.underlying4), trodAll_mk1 hargs, rfl, hb.frame _, fun h => by cases h⟩⟩
theorem shortPathsAgree_holds : Rows.ShortPathsAgreeSaid :=
  OpenClaim.holds_of_wide 8 Tryz.f8 rfl rfl rfl rfl rfl rfl rfl ⟨rfl, rfl, rfl, rfl, rfl⟩ rfl rfl rfl rfl rfl (by kernel_rfl) Tryz.func8 (by kernel_rfl)
    (of_decide_eq_true (by kernel_rfl)) (by unfold Func.isWrapper; rw [if_neg (of_decide_eq_false (by kernel_rfl))]; exact ⟨rfl, rfl⟩)
    (fun os started H enc _ => shortPathsAgree_lifted os started H enc)
theorem shortPathsAgree_card : Rows.ShortPathsAgreeCardSaid :=
  Claim7.holds_tied_plain_at .later [] [.data, .data, .data, .wider, .wider, .sentinel, .sentinel] true (true, "bc30e7aaa1f6196fb61e32f41cba15c3710d5bc92e2cb64de43c40be3a6a4ca4") false
    shortPathsAgree_holds (fun _ h => by cases h) (by kernel_rfl) (fun _ h => by cases h) shortPathsAgree_row_tie rfl ⟨rfl, rfl⟩ (by kernel_rfl) rfl
    (fun f fn hf hfn => by
      obtain rfl : f = 8 := Option.some.inj ((show Tryz.prog.funcNamed Rows.shortPathsAgreeRow.func = some 8 by kernel_rfl).symm.trans hf) |>.symm
      obtain rfl : fn = Tryz.f8 := (Option.some.inj (Tryz.func8.symm.trans hfn)).symm
      exact ⟨by kernel_rfl, fun j t ht => by
        rw [Tryz.params8] at ht
        have h3 : t = 22 := by
          rcases j with _ | j
          · simpa using ht.symm
          · simp at ht
        subst h3
        exact (show Tryz.prog.wantsStandIn 22 = false by kernel_rfl)⟩)
    (by kernel_rfl)
end Go.Proofs.Qxb6500680aGreatDoor
