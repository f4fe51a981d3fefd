import Derived.Test.Qxb6500680aGreatDoorPat
import Derived.Test.Qxb6500680aGreatDoorMore
namespace Go.Proofs.Qxb6500680aGreatDoor
open Go.RowKit Go.BigFrame
set_option linter.unusedSimpArgs false
attribute [local go_sem] ext_cell_if ext_frozen_if alloc_cell_if alloc_frozen_if ext_size ext_ext
theorem Gw.glob {w : World} (h : Gw w) : Glob w := ⟨cell_of_cells h.1 0, cell_of_cells h.1 1, cell_of_cells h.1 2, cell_of_cells h.2 0, cell_of_cells h.2 1, cell_of_cells h.2 2⟩
theorem format_any {W E F : Int} (hF : Fm W E F) (w : World) (g : Glob w) : Calls Tryz.prog 15 #[.int .i64 W] w fun r w' => r = .returned (.agg #[.int .u64 W, .int .u64 E, .int .u64 F]) ∧ ∃ x, w' = ext w x := by
  rcases hF with ⟨rfl, rfl, rfl⟩ | ⟨rfl, rfl, rfl⟩
  · exact format32 w g
  · exact format64 w g
theorem div_any {W E F : Int} (hF : Fm W E F) (A B md : Int) (hA : InR .u64 A) (hB : InR .u64 B) (hmd : InR .u8 md) (w : World) (hw : Gw w) : Calls Tryz.prog 45 #[.agg #[.int .u64 W, .int .u64 E, .int .u64 F], .int .u64 A, .int .u64 B, .int .u8 md] w (R2 .u64 .u8 w) := by
  obtain ⟨a, rfl⟩ : ∃ a : Nat, A = a := ⟨A.toNat, by have := u64r hA; omega⟩
  obtain ⟨b, rfl⟩ : ∃ b : Nat, B = b := ⟨B.toNat, by have := u64r hB; omega⟩
  have h1 := u64r hA
  have h2 := u64r hB
  rcases hF with ⟨rfl, rfl, rfl⟩ | ⟨rfl, rfl, rfl⟩
  · exact div32 a b md (by omega) (by omega) hmd w hw
  · exact div64 a b md (by omega) (by omega) hmd w hw
theorem quo24_any {W E F : Int} (hF : Fm W E F) (A B : Int) (hA : InR .u64 A) (hB : InR .u64 B) (w : World) : Calls Tryz.prog 36 #[.agg #[.int .u64 W, .int .u64 E, .int .u64 F], .int .u64 A, .int .u64 B] w (R2 .i32 .u8 w) := by
  obtain ⟨a, rfl⟩ : ∃ a : Nat, A = a := ⟨A.toNat, by have := u64r hA; omega⟩
  obtain ⟨b, rfl⟩ : ∃ b : Nat, B = b := ⟨B.toNat, by have := u64r hB; omega⟩
  have h1 := u64r hA
  have h2 := u64r hB
  rcases hF with ⟨rfl, rfl, rfl⟩ | ⟨rfl, rfl, rfl⟩
  · exact (quo2432 a b (by omega) (by omega) w).mono fun e w' ⟨n, s, he, hn, hs, hx⟩ => ⟨n, s, he, hn, hs, hx⟩
  · exact (quo2464 a b (by omega) (by omega) w).mono fun e w' ⟨n, s, he, hn, hs, hx⟩ => ⟨n, s, he, hn, hs, hx⟩
theorem textF_any {W E F : Int} (hF : Fm W E F) (A : Int) (hA : InR .u64 A) (w : World) (ht : Lib.TabIs Tryz.prog w "internal/strconv.uint64pow10" .u64 Lib.pow10Tab) : Calls Tryz.prog 16 #[.agg #[.int .u64 W, .int .u64 E, .int .u64 F], .int .u64 A] w (TextOK w) := by
  obtain ⟨a, rfl⟩ : ∃ a : Nat, A = a := ⟨A.toNat, by have := u64r hA; omega⟩
  rcases hF with ⟨rfl, rfl, rfl⟩ | ⟨rfl, rfl, rfl⟩
  · exact text_any fc32 a w ht
  · exact text_any fc64 a w ht
theorem or_in (m s : Int) : ∃ r, InR .u64 r ∧ bits .or .u64 m s = r := ⟨_, bits_in _ _ _, rfl⟩
theorem parseF_any {W E F : Int} (hF : Fm W E F) (s : ByteArray) (hs : s.size ≤ 100) (w : World) : Calls Tryz.prog 17 #[.agg #[.int .u64 W, .int .u64 E, .int .u64 F], .string s] w (PtOK w) := by
  rcases hF with ⟨rfl, rfl, rfl⟩ | ⟨rfl, rfl, rfl⟩
  · refine parseText_any fc32 (u64_in _ (by decide) (by decide)) (fun m b hm => ?_) s hs w
    cases b
    · exact ⟨m, hm, fun w => withSign32 m m false (by simp) (by simp) w⟩
    · obtain ⟨r, hr, he⟩ := or_in m 2147483648
      exact ⟨r, hr, fun w => withSign32 m r true (fun _ => he) (by simp) w⟩
  · refine parseText_any fc64 (u64_in _ (by decide) (by decide)) (fun m b hm => ?_) s hs w
    cases b
    · exact ⟨m, hm, fun w => withSign64 m m false (by simp) (by simp) w⟩
    · obtain ⟨r, hr, he⟩ := or_in m 9223372036854775808
      exact ⟨r, hr, fun w => withSign64 m r true (fun _ => he) (by simp) w⟩
/-- What playReal answers. -/
def PlayOK (w : World) (e : Ending) (w' : World) : Prop := ∃ v, e = .returned v ∧ ResV v ∧ ∃ x, w' = ext w x
theorem Pl.fin {ob rv fb rb : Nat} {op fm z : Array Value} {P Wd I F S C O : Int} {T : ByteArray} {Fd : Bool} {w0 w w' : World} (h : Pl ob rv fb rb op fm #[.int .u64 P, .int .i64 Wd, .int .i64 I, .int .u8 F, .int .u8 S, .int .u8 C, .int .i8 O, .string T, .bool Fd] z w0 w) (hp : InR .u64 P) (hw' : w' = ((((((((w.setCell ⟨rv, 0, none⟩ (.int .u64 P)).setCell ⟨rv, 1, none⟩ (.int .i64 Wd)).setCell ⟨rv, 2, none⟩ (.int .i64 I)).setCell ⟨rv, 3, none⟩ (.int .u8 F)).setCell ⟨rv, 4, none⟩ (.int .u8 S)).setCell ⟨rv, 5, none⟩ (.int .u8 C)).setCell ⟨rv, 6, none⟩ (.int .i8 O)).setCell ⟨rv, 7, none⟩ (.string T)).setCell ⟨rv, 8, none⟩ (.bool Fd)) :
    PlayOK w0 (.returned (.agg #[.int .u64 P, .int .i64 Wd, .int .i64 I, .int .u8 F, .int .u8 S, .int .u8 C, .int .i8 O, .string T, .bool Fd])) w' := by
  subst hw'
  exact ⟨_, rfl, ⟨P, Wd, I, F, S, C, O, T, Fd, rfl, hp⟩, Gr.of (((((((((h.gr.setCell h.lv _).setCell h.lv _).setCell h.lv _).setCell h.lv _).setCell h.lv _).setCell h.lv _).setCell h.lv _).setCell h.lv _).setCell h.lv _)⟩
theorem sign_any {W E F : Int} (hF : Fm W E F) (A : Int) (_hA : InR .u64 A) : ∃ b : Bool, ∀ w : World, Calls Tryz.prog 165 #[.agg #[.int .u64 W, .int .u64 E, .int .u64 F], .int .u64 A] w fun e w' => e = .returned (.bool b) ∧ ∃ x, w' = ext w x := by
  rcases hF with ⟨rfl, rfl, rfl⟩ | ⟨rfl, rfl, rfl⟩
  · exact ⟨_, fun w => signBit32 A w⟩
  · exact ⟨_, fun w => signBit64 A w⟩
theorem sbit (nb : Bool) : ∃ q : Int, ∀ w : World, Calls Tryz.prog 69 #[.bool nb] w fun e w' => e = .returned (.int .i64 q) ∧ ∃ x, w' = ext w x := ⟨_, fun w => signBit_any nb w⟩
theorem Pl.drew {ob rv fb rb : Nat} {op fm r z : Array Value} {w0 w : World} (h : Pl ob rv fb rb op fm r z w0 w) : Pl ob rv fb rb op fm r z w0 w.drew := ⟨h.o, h.v, h.f, h.r, h.gr.drew, h.lv, h.lr, h.no, h.nv, h.nf⟩
theorem Pl.alloc {ob rv fb rb : Nat} {op fm r z : Array Value} {w0 w : World} (h : Pl ob rv fb rb op fm r z w0 w) (o : Obj) : Pl ob rv fb rb op fm r z w0 (w.alloc o) := ⟨blk_alloc h.o, blk_alloc h.v, blk_alloc h.f, blk_alloc h.r, h.gr.alloc o, h.lv, h.lr, h.no, h.nv, h.nf⟩
theorem Pl.call {ob rv fb rb : Nat} {W : Int} {o0 o2 o3 o4 o5 o6 a0 a1 a2 a3 a4 a5 a6 a7 a8 : Value} {fm z : Array Value} {w0 w : World} (h : Pl ob rv fb rb #[o0, .int .i64 W, o2, o3, o4, o5, o6] fm #[a0, a1, a2, a3, a4, a5, a6, a7, a8] z w0 w) (p fl : Int) :
    Calls Tryz.prog 178 #[.int .u64 p, .int .u8 fl, .pointer (some ⟨ob, 0, none⟩), .pointer (some ⟨rb, 0, none⟩)] w fun e w' => e = .returned (.tuple #[]) ∧ Pl ob rv fb rb #[o0, .int .i64 W, o2, o3, o4, o5, o6] fm #[.int .u64 p, .int .i64 W, a2, .int .u8 fl, a4, a5, a6, a7, a8] z w0 w' :=
  (pat_any ob rb p fl W o0 o2 o3 o4 o5 o6 a0 a1 a2 a3 a4 a5 a6 a7 a8 w h.o h.r).mono fun _ _ hp => ⟨hp.1, h.pat hp⟩
theorem agg3 {v : Value} (h : Has1 (.agg [.bool, .int .u32, .int .u64]) v) : ∃ (b : Bool) (e f : Int), v = .agg #[.bool b, .int .u32 e, .int .u64 f] ∧ (0 ≤ e ∧ e ≤ 4294967295) ∧ InR .u64 f := by
  obtain ⟨⟨l⟩, rfl, hl⟩ := h
  match l, hl with
  | [a, b, c], hl =>
    obtain ⟨⟨x, rfl⟩, ⟨y, rfl, hy⟩, ⟨z, rfl, hz⟩, _⟩ := hl
    exact ⟨x, y, z, rfl, hy, hz⟩
end Go.Proofs.Qxb6500680aGreatDoor
