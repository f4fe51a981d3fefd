import Derived.Test.Qxb6500680aGreatDoorTysg
import Derived.Test.Qxb6500680aGreatDoorLen
import Derived.Laws.Externs
import Derived.Shelf.Spec.BitsCarry
namespace Go.Proofs.Qxb6500680aGreatDoor
open Go.RowKit Go.BigFrame
set_option linter.unusedSimpArgs false
attribute [local go_sem] ext_cell_if ext_frozen_if alloc_cell_if alloc_frozen_if ext_size ext_ext
def nameOK (P : Program) (f : FuncId) : Bool :=
  match P.funcs[f]? with
  | some fn => !(fn.name == "runtime.NumGoroutine") && fn.body.isSome
  | none => false
theorem callOK_of {P : Program} {Gw : World → Prop} {g : Sg} (h : nameOK P g.f = true) (hc : ∀ (args : Array Value), HasT g.args args.toList → ∀ w, Gw w → Calls P g.f args w fun e w' => ∃ v, e = .returned v ∧ (∀ H, HasS H g.res v) ∧ ∃ x, w' = ext w x) : CallOK P Gw g := by
  intro args hargs w hG
  refine .inl ⟨?_, hc args hargs w hG⟩
  unfold nameOK at h
  split at h
  · rename_i fn hf
    simp only [Bool.and_eq_true] at h
    have hname' : ¬ fn.name = "runtime.NumGoroutine" := by simpa using h.1
    cases hb : fn.body with
    | none => simp [hb] at h
    | some c => simp [callFunc, hf, hname', hb]
  · cases h
theorem hasT_one {s : Sh1} {args : Array Value} (h : HasT [s] args.toList) : ∃ v, args = #[v] ∧ Has1 s v := by
  obtain ⟨l⟩ := args
  match l, h with
  | [v], h => exact ⟨v, rfl, h.1⟩
theorem hasT_two {s t : Sh1} {args : Array Value} (h : HasT [s, t] args.toList) : ∃ v u, args = #[v, u] ∧ Has1 s v ∧ Has1 t u := by
  obtain ⟨l⟩ := args
  match l, h with
  | [v, u], h => exact ⟨v, u, rfl, h.1, h.2.1⟩
theorem hasT_three {s t r : Sh1} {args : Array Value} (h : HasT [s, t, r] args.toList) : ∃ v u x, args = #[v, u, x] ∧ Has1 s v ∧ Has1 t u ∧ Has1 r x := by
  obtain ⟨l⟩ := args
  match l, h with
  | [v, u, x], h => exact ⟨v, u, x, rfl, h.1, h.2.1, h.2.2.1⟩
theorem u64_nat {n : Int} (h : InR .u64 n) : ∃ m : Nat, n = m ∧ m ≤ 18446744073709551615 := by
  have h1 : IntKind.u64.min = 0 := rfl
  have h2 : IntKind.u64.max = 18446744073709551615 := rfl
  unfold InR at h
  rw [h1, h2] at h
  exact ⟨n.toNat, by omega, by omega⟩
theorem has_two {v : Value} (h : Has1 (.agg [.int .u64, .int .u64]) v) : ∃ a b : Nat, v = .agg #[.int .u64 a, .int .u64 b] ∧ a ≤ 18446744073709551615 ∧ b ≤ 18446744073709551615 := by
  obtain ⟨arr, rfl, h⟩ := h
  obtain ⟨l⟩ := arr
  match l, h with
  | [x, y], h =>
    obtain ⟨m0, rfl, hm0⟩ := h.1
    obtain ⟨n0, rfl, hn0⟩ := h.2.1
    obtain ⟨m, rfl, hm⟩ := u64_nat hm0
    obtain ⟨n, rfl, hn⟩ := u64_nat hn0
    exact ⟨m, n, rfl, hm, hn⟩
theorem aux_le : ∀ (f x : Nat), Lib.bitLenAux f x ≤ f
  | 0, x => by simp [Lib.bitLenAux]
  | f + 1, x => by
    have := aux_le f (x / 2)
    unfold Lib.bitLenAux
    split <;> omega
theorem len_le (x : Nat) : Lib.bitLen x ≤ 64 := aux_le 64 x
theorem c200 (Gw : World → Prop) : CallOK Tryz.prog Gw ⟨200, [.cell (.int .u64)], .one (.cell (.int .i64))⟩ := callOK_of (by kernel_rfl) fun args h w _ => by
  obtain ⟨v, rfl, n, rfl, hn⟩ := hasT_one h
  obtain ⟨m, rfl, hm⟩ := u64_nat hn
  refine (Tryz.bits_Len64 m w (by omega) (by omega)).mono ?_
  rintro e w' ⟨rfl, rfl⟩
  refine ⟨_, rfl, fun H => ⟨_, rfl, ?_⟩, (Gr.refl _).of⟩
  have h1 : IntKind.i64.min = -9223372036854775808 := rfl
  have h2 : IntKind.i64.max = 9223372036854775807 := rfl
  unfold InR
  rw [h1, h2]
  have := len_le (m : Int).toNat
  omega
theorem r205 (x y c : Nat) (hc : c ≤ 1) (w : World) : (callFunc 205 #[.int .u64 x, .int .u64 y, .int .u64 c]).run Tryz.prog w = .ok (.value (.tuple #[.int .u64 (((x + y + c) % 18446744073709551616 : Nat) : Int), .int .u64 (((x + y + c) / 18446744073709551616 : Nat) : Int)])) w := by
  rw [run_callFunc_extern Tryz.func205 (by kernel_rfl) (by kernel_rfl) (by kernel_rfl) (e := add64Entry) (by kernel_rfl), run_add64 x y c (by omega) (by omega) (by omega) (by omega)]
  simp only [Result.andThen]
  congr 5 <;> omega
theorem r206 (x y b : Nat) (hb : b ≤ 1) (w : World) : (callFunc 206 #[.int .u64 x, .int .u64 y, .int .u64 b]).run Tryz.prog w = .ok (.value (.tuple #[.int .u64 (((x + 18446744073709551616 - y - b) % 18446744073709551616 : Nat) : Int), .int .u64 ((if x < y + b then 1 else 0 : Nat) : Int)])) w := by
  rw [run_callFunc_extern Tryz.func206 (by kernel_rfl) (by kernel_rfl) (by kernel_rfl) (e := sub64Entry) (by kernel_rfl), run_sub64 x y b hb]
  rfl
theorem nat_in (m : Nat) (h : m ≤ 18446744073709551615) : InR .u64 (m : Int) := by
  have h1 : IntKind.u64.min = 0 := rfl
  have h2 : IntKind.u64.max = 18446744073709551615 := rfl
  unfold InR
  rw [h1, h2]
  omega
theorem two_has (H : Hp) (a b : Nat) (ha : a ≤ 18446744073709551615) (hb : b ≤ 18446744073709551615) : HasS H (.one (.agg [.int .u64, .int .u64])) (.agg #[.int .u64 a, .int .u64 b]) := ⟨_, rfl, ⟨_, rfl, nat_in a ha⟩, ⟨_, rfl, nat_in b hb⟩, trivial⟩
set_option maxRecDepth 100000 in
theorem c152 (Gw : World → Prop) : CallOK Tryz.prog Gw ⟨152, [.agg [.int .u64, .int .u64], .agg [.int .u64, .int .u64]], .one (.agg [.int .u64, .int .u64])⟩ := callOK_of (by kernel_rfl) fun args h w _ => by
  obtain ⟨v, u, rfl, hv, hu⟩ := hasT_two h
  obtain ⟨a, b, rfl, ha, hb⟩ := has_two hv
  obtain ⟨c, d, rfl, hc, hd⟩ := has_two hu
  clear h hv hu
  have q1 : ∀ W, (callFunc 205 #[.int .u64 b, .int .u64 d, .int .u64 0]).run Tryz.prog W = _ := fun W => r205 b d 0 (by omega) W
  obtain ⟨L, hL⟩ : ∃ L : Nat, (b + d + 0) % 18446744073709551616 = L := ⟨_, rfl⟩
  obtain ⟨Y, hY⟩ : ∃ Y : Nat, (b + d + 0) / 18446744073709551616 = Y := ⟨_, rfl⟩
  have q2 : ∀ W, (callFunc 205 #[.int .u64 a, .int .u64 c, .int .u64 Y]).run Tryz.prog W = _ := fun W => r205 a c Y (by rw [← hY]; first | omega | (split <;> omega)) W
  obtain ⟨M, hM⟩ : ∃ M : Nat, (a + c + Y) % 18446744073709551616 = M := ⟨_, rfl⟩
  obtain ⟨Z, hZ⟩ : ∃ Z : Nat, (a + c + Y) / 18446744073709551616 = Z := ⟨_, rfl⟩
  rw [hL, hY] at q1
  rw [hM, hZ] at q2
  have hL' := hidden (show L ≤ 18446744073709551615 by omega)
  have hM' := hidden (show M ≤ 18446744073709551615 by omega)
  clear hL hY hM hZ
  go_enter Tryz.func152, Tryz.ntmps152
  go_wp2
  exact bodyPost_ret (v := .agg #[.int .u64 M, .int .u64 L]) (by simp [results, Tryz.results152, go_sem, ↓IntWalk.iteOmega]) rfl ⟨_, rfl, fun H => two_has H M L hM'.out hL'.out, ((((Gr.refl w).alloc _).alloc _).alloc _).of⟩
set_option maxRecDepth 100000 in
theorem c154 (Gw : World → Prop) : CallOK Tryz.prog Gw ⟨154, [.agg [.int .u64, .int .u64], .agg [.int .u64, .int .u64]], .one (.agg [.int .u64, .int .u64])⟩ := callOK_of (by kernel_rfl) fun args h w _ => by
  obtain ⟨v, u, rfl, hv, hu⟩ := hasT_two h
  obtain ⟨a, b, rfl, ha, hb⟩ := has_two hv
  obtain ⟨c, d, rfl, hc, hd⟩ := has_two hu
  clear h hv hu
  have q1 : ∀ W, (callFunc 206 #[.int .u64 b, .int .u64 d, .int .u64 0]).run Tryz.prog W = _ := fun W => r206 b d 0 (by omega) W
  obtain ⟨L, hL⟩ : ∃ L : Nat, (b + 18446744073709551616 - d - 0) % 18446744073709551616 = L := ⟨_, rfl⟩
  obtain ⟨Y, hY⟩ : ∃ Y : Nat, (if b < d + 0 then 1 else 0) = Y := ⟨_, rfl⟩
  have q2 : ∀ W, (callFunc 206 #[.int .u64 a, .int .u64 c, .int .u64 Y]).run Tryz.prog W = _ := fun W => r206 a c Y (by rw [← hY]; first | omega | (split <;> omega)) W
  obtain ⟨M, hM⟩ : ∃ M : Nat, (a + 18446744073709551616 - c - Y) % 18446744073709551616 = M := ⟨_, rfl⟩
  obtain ⟨Z, hZ⟩ : ∃ Z : Nat, (if a < c + Y then 1 else 0) = Z := ⟨_, rfl⟩
  rw [hL, hY] at q1
  rw [hM, hZ] at q2
  have hL' := hidden (show L ≤ 18446744073709551615 by omega)
  have hM' := hidden (show M ≤ 18446744073709551615 by omega)
  clear hL hY hM hZ
  go_enter Tryz.func154, Tryz.ntmps154
  go_wp2
  exact bodyPost_ret (v := .agg #[.int .u64 M, .int .u64 L]) (by simp [results, Tryz.results154, go_sem, ↓IntWalk.iteOmega]) rfl ⟨_, rfl, fun H => two_has H M L hM'.out hL'.out, ((((Gr.refl w).alloc _).alloc _).alloc _).of⟩
end Go.Proofs.Qxb6500680aGreatDoor
