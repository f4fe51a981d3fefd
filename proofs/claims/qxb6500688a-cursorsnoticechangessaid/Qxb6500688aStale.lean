import Derived.Test.Qxb6500688aPrev
namespace Go.Proofs.Qxb6500688a
open Go.RowKit Go.BigFrame
set_option linter.unusedSimpArgs false
attribute [local go_sem] ext_cell_if ext_frozen_if alloc_cell_if alloc_frozen_if ext_size ext_ext
theorem stale_next (A cb ib : Nat) (t : T) (ver ver' : Int) (path : List T) (i a b c d : Int) (w : World) (hc : Cu A w cb ib ver path i a b c d) (hx : w.heap[ib]? = some (.cells #[t.ptr, .int .u64 ver'] 46)) (hs : path = [] ∨ ver ≠ ver') :
    Calls Try.prog 10 #[.pointer (some ⟨cb, 0, none⟩)] w fun e w' => e = .returned (.bool false) ∧ ∃ x, w' = ext w x := by
  have VA := hidden (valid_any A cb ib t ver ver' _ _ _ _ _ _ w hc hx)
  have HS := hidden hs
  clear hc hx hs
  go_enter Try.func10, Try.ntmps10
  go_wp2_with (go_at_call 9; (with_reducible refine VA.out.mono ?_); rintro _ _ ⟨hV, x1, rfl⟩; obtain rfl := hV.1 HS.out; clear hV)
  go_ret
  exact ⟨rfl, x1, rfl⟩
theorem stale_prev (A cb ib : Nat) (t : T) (ver ver' : Int) (path : List T) (i a b c d : Int) (w : World) (hc : Cu A w cb ib ver path i a b c d) (hx : w.heap[ib]? = some (.cells #[t.ptr, .int .u64 ver'] 46)) (hs : path = [] ∨ ver ≠ ver') :
    Calls Try.prog 11 #[.pointer (some ⟨cb, 0, none⟩)] w fun e w' => e = .returned (.bool false) ∧ ∃ x, w' = ext w x := by
  have VA := hidden (valid_any A cb ib t ver ver' _ _ _ _ _ _ w hc hx)
  have HS := hidden hs
  clear hc hx hs
  go_enter Try.func11, Try.ntmps11
  go_wp2_with (go_at_call 9; (with_reducible refine VA.out.mono ?_); rintro _ _ ⟨hV, x1, rfl⟩; obtain rfl := hV.1 HS.out; clear hV)
  go_ret
  exact ⟨rfl, x1, rfl⟩
end Go.Proofs.Qxb6500688a
