import Derived.Test.Qxb6500680aGreatDoorP0
import Derived.Test.Qxb6500680aGreatDoorP1
import Derived.Test.Qxb6500680aGreatDoorP2
import Derived.Test.Qxb6500680aGreatDoorP3
import Derived.Test.Qxb6500680aGreatDoorP4
import Derived.Test.Qxb6500680aGreatDoorP5
import Derived.Test.Qxb6500680aGreatDoorP6
import Derived.Test.Qxb6500680aGreatDoorP7
import Derived.Test.Qxb6500680aGreatDoorP8
import Derived.Test.Qxb6500680aGreatDoorP9
import Derived.Test.Qxb6500680aGreatDoorP10
import Derived.Test.Qxb6500680aGreatDoorP11
import Derived.Test.Qxb6500680aGreatDoorP12
import Derived.Test.Qxb6500680aGreatDoorP13
import Derived.Test.Qxb6500680aGreatDoorP14
import Derived.Test.Qxb6500680aGreatDoorP15
import Derived.Test.Qxb6500680aGreatDoorP16
import Derived.Test.Qxb6500680aGreatDoorP17
import Derived.Test.Qxb6500680aGreatDoorP18
import Derived.Test.Qxb6500680aGreatDoorP19
import Derived.Test.Qxb6500680aGreatDoorP20
import Derived.Test.Qxb6500680aGreatDoorP21
import Derived.Test.Qxb6500680aGreatDoorP22
import Derived.Test.Qxb6500680aGreatDoorP23
import Derived.Test.Qxb6500680aGreatDoorP24
import Derived.Test.Qxb6500680aGreatDoorP25
namespace Go.Proofs.Qxb6500680aGreatDoor
open Go.RowKit Go.BigFrame
set_option linter.unusedSimpArgs false
attribute [local go_sem] ext_cell_if ext_frozen_if alloc_cell_if alloc_frozen_if ext_size ext_ext
theorem play_any (v : Value) (h : OpV v) (w : World) (hw : Gw w) (ht : Lib.TabIs Tryz.prog w "internal/strconv.uint64pow10" .u64 Lib.pow10Tab) : Calls Tryz.prog 66 #[v] w (PlayOK w) := by
  obtain ⟨k, W, md, ch, A, B, N, rfl, hk, hW, hm, hA, hB, hN⟩ := h
  obtain ⟨E, F, hF⟩ : ∃ E F, Fm W E F := by
    rcases hW with rfl | rfl
    · exact ⟨8, 23, .inl ⟨rfl, rfl, rfl⟩⟩
    · exact ⟨11, 52, .inr ⟨rfl, rfl, rfl⟩⟩
  clear hW
  match k, hk with
  | 0, _ => exact play0 hF md ch A B N hm hA hB hN w hw ht
  | 1, _ => exact play1 hF md ch A B N hm hA hB hN w hw ht
  | 2, _ => exact play2 hF md ch A B N hm hA hB hN w hw ht
  | 3, _ => exact play3 hF md ch A B N hm hA hB hN w hw ht
  | 4, _ => exact play4 hF md ch A B N hm hA hB hN w hw ht
  | 5, _ => exact play5 hF md ch A B N hm hA hB hN w hw ht
  | 6, _ => exact play6 hF md ch A B N hm hA hB hN w hw ht
  | 7, _ => exact play7 hF md ch A B N hm hA hB hN w hw ht
  | 8, _ => exact play8 hF md ch A B N hm hA hB hN w hw ht
  | 9, _ => exact play9 hF md ch A B N hm hA hB hN w hw ht
  | 10, _ => exact play10 hF md ch A B N hm hA hB hN w hw ht
  | 11, _ => exact play11 hF md ch A B N hm hA hB hN w hw ht
  | 12, _ => exact play12 hF md ch A B N hm hA hB hN w hw ht
  | 13, _ => exact play13 hF md ch A B N hm hA hB hN w hw ht
  | 14, _ => exact play14 hF md ch A B N hm hA hB hN w hw ht
  | 15, _ => exact play15 hF md ch A B N hm hA hB hN w hw ht
  | 16, _ => exact play16 hF md ch A B N hm hA hB hN w hw ht
  | 17, _ => exact play17 hF md ch A B N hm hA hB hN w hw ht
  | 18, _ => exact play18 hF md ch A B N hm hA hB hN w hw ht
  | 19, _ => exact play19 hF md ch A B N hm hA hB hN w hw ht
  | 20, _ => exact play20 hF md ch A B N hm hA hB hN w hw ht
  | 21, _ => exact play21 hF md ch A B N hm hA hB hN w hw ht
  | 22, _ => exact play22 hF md ch A B N hm hA hB hN w hw ht
  | 23, _ => exact play23 hF md ch A B N hm hA hB hN w hw ht
  | 24, _ => exact play24 hF md ch A B N hm hA hB hN w hw ht
  | 25, _ => exact play25 hF md ch A B N hm hA hB hN w hw ht
  | m + 26, h => exact absurd h (by omega)
end Go.Proofs.Qxb6500680aGreatDoor
