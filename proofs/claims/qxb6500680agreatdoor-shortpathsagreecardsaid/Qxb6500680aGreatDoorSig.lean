import Derived.Test.Qxb6500680aGreatDoorBase
namespace Go.Proofs.Qxb6500680aGreatDoor
open Go.RowKit Go.BigFrame
/-- The two formats lie in their variables. -/
def Gw (w : World) : Prop := w.heap[1]? = some (.cells #[.int .u64 32, .int .u64 8, .int .u64 23] 35) ∧ w.heap[2]? = some (.cells #[.int .u64 64, .int .u64 11, .int .u64 52] 35)
theorem Gw.gr (w w' : World) (h : Gw w) (hg : Gr w.heap.size w w') : Gw w' := ⟨(hg.1.block 1 (lt_of_cells h.1)).trans h.1, (hg.1.block 2 (lt_of_cells h.2)).trans h.2⟩
def fmtL : List Ce := [.int .u64, .int .u64, .int .u64]
def ev0 : Ev := ⟨[⟨200, [.cell (.int .u64)], .one (.cell (.int .i64))⟩, ⟨152, [.agg [.int .u64, .int .u64], .agg [.int .u64, .int .u64]], .one (.agg [.int .u64, .int .u64])⟩, ⟨154, [.agg [.int .u64, .int .u64], .agg [.int .u64, .int .u64]], .one (.agg [.int .u64, .int .u64])⟩], [(1, fmtL), (2, fmtL)]⟩
theorem u64_in (n : Int) (h0 : 0 ≤ n) (h1 : n ≤ 18446744073709551615) : InR .u64 n := ⟨h0, h1⟩
theorem ev0_ok : SigOK Tryz.prog Gw ev0 := by
  refine ⟨fun g hg => ?_, fun p hp w hw => ?_⟩
  · simp [ev0] at hg
    rcases hg with rfl | rfl | rfl
    · exact c200 Gw
    · exact c152 Gw
    · exact c154 Gw
  · simp [ev0] at hp
    rcases hp with rfl | rfl
    · exact ⟨_, _, hw.1, ⟨_, rfl, u64_in 32 (by decide) (by decide)⟩, ⟨_, rfl, u64_in 8 (by decide) (by decide)⟩, ⟨_, rfl, u64_in 23 (by decide) (by decide)⟩, trivial⟩
    · exact ⟨_, _, hw.2, ⟨_, rfl, u64_in 64 (by decide) (by decide)⟩, ⟨_, rfl, u64_in 11 (by decide) (by decide)⟩, ⟨_, rfl, u64_in 52 (by decide) (by decide)⟩, trivial⟩
def l1 : List FuncId := [183, 85, 89, 90, 145, 156, 158, 165, 186, 187, 188, 228, 229, 230, 192, 88, 92, 94, 194, 95, 96, 157, 174, 143, 219, 195, 203, 220, 204, 221]
theorem ev1_ok : SigOK Tryz.prog Gw ⟨(sgs Tryz.prog l1).reverse ++ ev0.fs, ev0.gl⟩ := chkAll_sound (known := ⟨ev0.fs, ev0.gl⟩) (by kernel_rfl) Gw.gr ev0_ok (by kernel_rfl)
def l2 : List FuncId := [196, 97, 78, 173, 80, 20, 166, 141, 202, 142, 35, 193, 93, 149, 197, 147, 44, 150, 151, 153, 46, 155]
theorem ev2_ok : SigOK Tryz.prog Gw ⟨(sgs Tryz.prog l2).reverse ++ ((sgs Tryz.prog l1).reverse ++ ev0.fs), ev0.gl⟩ := chkAll_sound (known := ⟨((sgs Tryz.prog l1).reverse ++ ev0.fs), ev0.gl⟩) (by kernel_rfl) Gw.gr ev1_ok (by kernel_rfl)
def l3 : List FuncId := [47, 48, 40, 49, 52, 167, 53, 56, 171, 57, 172, 59, 61, 63, 67, 69, 72, 109, 111, 216, 179, 181, 180, 182]
theorem ev3_ok : SigOK Tryz.prog Gw ⟨(sgs Tryz.prog l3).reverse ++ ((sgs Tryz.prog l2).reverse ++ ((sgs Tryz.prog l1).reverse ++ ev0.fs)), ev0.gl⟩ := chkAll_sound (known := ⟨((sgs Tryz.prog l2).reverse ++ ((sgs Tryz.prog l1).reverse ++ ev0.fs)), ev0.gl⟩) (by kernel_rfl) Gw.gr ev2_ok (by kernel_rfl)
/-- What a function that the checker knows is called with, and answers. -/
theorem known {f : FuncId} {g : Sg} (h : findSg ((sgs Tryz.prog l3).reverse ++ ((sgs Tryz.prog l2).reverse ++ ((sgs Tryz.prog l1).reverse ++ ev0.fs))) f = some g) : CallOK Tryz.prog Gw g := ev3_ok.1 g (findSg_mem h).1
theorem known_calls {f : FuncId} {g : Sg} (h : findSg ((sgs Tryz.prog l3).reverse ++ ((sgs Tryz.prog l2).reverse ++ ((sgs Tryz.prog l1).reverse ++ ev0.fs))) f = some g) (hn : nameOK Tryz.prog g.f = true) (args : Array Value) (ha : HasT g.args args.toList) (w : World) (hw : Gw w) : Calls Tryz.prog g.f args w fun e w' => ∃ v, e = .returned v ∧ (∀ H, HasS H g.res v) ∧ ∃ x, w' = ext w x := by
  rcases known h args ha w hw with ⟨_, h2⟩ | ⟨v, h2, _⟩
  · exact h2
  · exfalso
    unfold nameOK at hn
    split at hn
    · rename_i fn hf
      simp only [Bool.and_eq_true] at hn
      have hname' : ¬ fn.name = "runtime.NumGoroutine" := by simpa using hn.1
      cases hb : fn.body with
      | none => simp [hb] at hn
      | some c => simp [callFunc, hf, hname', hb] at h2
    · cases hn
theorem t46 : findSg ((sgs Tryz.prog l3).reverse ++ ((sgs Tryz.prog l2).reverse ++ ((sgs Tryz.prog l1).reverse ++ ev0.fs))) 46 = some ⟨46, [.agg fmtL, .cell (.int .u64), .cell (.int .u64), .cell (.int .u8)], .tup [.cell (.int .u64), .cell (.int .u8)]⟩ := by kernel_rfl
end Go.Proofs.Qxb6500680aGreatDoor
