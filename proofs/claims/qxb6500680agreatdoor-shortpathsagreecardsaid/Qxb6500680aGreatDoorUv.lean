import Derived.Test.Qxb6500680aGreatDoorUu
import Derived.Test.Qxb6500680aGreatDoorUo
namespace Go.Proofs.Qxb6500680aGreatDoor
open Go.RowKit Go.BigFrame
set_option linter.unusedSimpArgs false
set_option linter.unusedSectionVars false
attribute [local go_sem] ext_cell_if ext_frozen_if alloc_cell_if alloc_frozen_if ext_size ext_ext calmOp calmAt
/-- short32 says true. -/
theorem short32_ok (kk W md : Int) (ch : Bool) (A B N : Int) (w : World) (hg : Gt w) : Calls Tryz.prog 33 #[.agg #[.int .u8 kk, .int .i64 W, .int .u8 md, .bool ch, .int .u64 A, .int .u64 B, .int .i64 N]] w (Rt (.bool true) w) := by
  obtain ⟨a, ha⟩ : ∃ a : Nat, IntKind.u32.wrap A = (a : Int) := ⟨(A % 4294967296).toNat, by rw [IntKind.wrap_u32]; omega⟩
  obtain ⟨b, hb⟩ : ∃ b : Nat, IntKind.u32.wrap B = (b : Int) := ⟨(B % 4294967296).toNat, by rw [IntKind.wrap_u32]; omega⟩
  obtain ⟨n, hn⟩ : ∃ n, IntKind.i32.wrap N = n := ⟨_, rfl⟩
  have la : (a : Int) < 4294967296 := by rw [IntKind.wrap_u32] at ha; omega
  have lb : (b : Int) < 4294967296 := by rw [IntKind.wrap_u32] at hb; omega
  have ln : -2147483648 ≤ n ∧ n ≤ 2147483647 := by rw [IntKind.wrap_i32] at hn; omega
  have k99 := fun w => s99 a la w
  have k67 := fun w => split32_eq a la w
  have k100 := fun w => s100 a la w
  obtain ⟨cl, k72, k101⟩ := s101 a la
  obtain ⟨y1, k30, k102⟩ := s102 a la
  obtain ⟨y2, k78, k103⟩ := s103 a la
  obtain ⟨t1, t2, k59, k104⟩ := s104 a la
  obtain ⟨c1, c2, lc, k48, k105⟩ := s105 n ln.1 ln.2
  obtain ⟨m1, m2, lm, k35, k106⟩ := s106 a n la ln.1 ln.2
  obtain ⟨q1, q2, k36, k107⟩ := s107 a b la lb
  obtain ⟨d1, d2, ld0, ld1, k109, k108⟩ := t108 a b la lb
  obtain ⟨u1, u2, lu0, lu1, k111, k110⟩ := s110 a n la ln.1 ln.2
  obtain ⟨p0, f0, lp0, k44, k112⟩ := t112 a b la lb
  obtain ⟨p1, f1, lp1, k45, k113⟩ := t113 a b la lb
  obtain ⟨p2, f2, lp2, k46, k114⟩ := t114 a b la lb
  obtain ⟨p3, f3, lp3, k47, k115⟩ := t115 a b la lb
  obtain ⟨g1, lg1, k53, k116⟩ := t116 a la
  obtain ⟨g2, lg2, k56, k117⟩ := t117 a la
  obtain ⟨o, k57, k118⟩ := s118 a b la lb
  obtain ⟨s, k16, k119, k120⟩ := s119 a la
  have lf : a % 8388608 < 8388608 := Nat.mod_lt _ (by decide)
  exact w33a kk W md ch A B N a b n _ _ cl t1 t2 c1 c2 m1 m2 q1 q2 d1 d2 u1 u2 p0 p1 p2 p3 f0 f1 f2 f3 g1 g2 o _ y1 y2 s (s.size ≤ 100) ha hb hn (by omega) (by omega) ln (by omega) (by omega) (by omega) ⟨ld0, ld1⟩ ⟨lu0, lu1⟩ (by omega) (by omega) (by omega) (by omega) (by omega) (by omega)
    (hidden (fun w _ => k99 w)) (hidden (fun w _ => k67 w)) (hidden (fun w _ => k100 w)) (hidden (fun w _ => k101 w)) (hidden (fun w _ => k72 w)) (hidden (fun w _ => k102 w)) (hidden (fun w _ => k30 w)) (hidden (fun w _ => k103 w)) (hidden (fun w _ => k78 w)) (hidden (fun w _ => k104 w)) (hidden (fun w _ => k59 w)) (hidden (fun w _ => k105 w)) (hidden (fun w _ => k48 w)) (hidden (fun w h => k106 w h.1)) (hidden (fun w _ => k35 w)) (hidden (fun w h => k107 w h.1)) (hidden (fun w _ => k36 w)) (hidden (fun w _ => k108 w)) (hidden (fun w _ => k109 w)) (hidden (fun w _ => k110 w)) (hidden (fun w _ => k111 w)) (hidden (fun w h => k112 w h.1)) (hidden (fun w h => k113 w h.1)) (hidden (fun w h => k114 w h.1)) (hidden (fun w h => k115 w h.1)) (hidden (fun w _ => k44 w)) (hidden (fun w _ => k45 w)) (hidden (fun w _ => k46 w)) (hidden (fun w _ => k47 w)) (hidden (fun w h => k116 w h.1)) (hidden (fun w _ => k53 w)) (hidden (fun w h => k117 w h.1)) (hidden (fun w _ => k56 w)) (hidden (fun w h => k118 w h.1)) (hidden (fun w _ => k57 w))
    (hidden (fun w h => (k119 w h.1 h.2).mono fun _ _ h => h.1)) (hidden (fun w h => (k16 w h.2).mono fun _ _ h => h.1)) (hidden (fun w h => k119 w h.1 h.2)) (hidden (fun hs w h => k120 hs w h.1)) w hg
/-- short64 says true. -/
theorem short64_ok (kk W md : Int) (ch : Bool) (a b : Nat) (n : Int) (la : (a : Int) < 18446744073709551616) (lb : (b : Int) < 18446744073709551616) (n0 : -9223372036854775808 ≤ n) (n1 : n ≤ 9223372036854775807) (w : World) (hg : Gt w) : Calls Tryz.prog 34 #[.agg #[.int .u8 kk, .int .i64 W, .int .u8 md, .bool ch, .int .u64 a, .int .u64 b, .int .i64 n]] w (Rt (.bool true) w) := by
  have k121 := fun w => s121 a la w
  have k67 := fun w => split64_eq a la w
  have k122 := fun w => s122 a la w
  obtain ⟨cl, k72, k123⟩ := s123 a la
  obtain ⟨y1, k30, k124⟩ := s124 a la
  obtain ⟨y2, k78, k125⟩ := s125 a la
  obtain ⟨t1, t2, k59, k126⟩ := s126 a la
  obtain ⟨c1, c2, k48, k127⟩ := s127 n n0 n1
  obtain ⟨m1, m2, k35, k128⟩ := s128 a n la n0 n1
  obtain ⟨q1, q2, k36, k129⟩ := s129 a b la lb
  obtain ⟨d1, d2, k109, k130⟩ := s130 a b la lb
  obtain ⟨u1, u2, k111, k131⟩ := s131 a n la n0 n1
  obtain ⟨p0, f0, k44, k132⟩ := s132 a b la lb
  obtain ⟨p1, f1, k45, k133⟩ := s133 a b la lb
  obtain ⟨p2, f2, k46, k134⟩ := s134 a b la lb
  obtain ⟨p3, f3, k47, k135⟩ := s135 a b la lb
  obtain ⟨g1, k53, k136⟩ := s136 a la
  obtain ⟨g2, k56, k137⟩ := s137 a la
  obtain ⟨o, k57, k138⟩ := s138 a b la lb
  obtain ⟨s, k16, k139, k140⟩ := s139 a la
  exact w34a kk W md ch a b n _ _ cl t1 t2 c1 c2 m1 m2 q1 q2 d1 d2 u1 u2 p0 p1 p2 p3 f0 f1 f2 f3 g1 g2 o _ y1 y2 s (s.size ≤ 100)
    (hidden (fun w _ => k121 w)) (hidden (fun w _ => k67 w)) (hidden (fun w _ => k122 w)) (hidden (fun w _ => k123 w)) (hidden (fun w _ => k72 w)) (hidden (fun w _ => k124 w)) (hidden (fun w _ => k30 w)) (hidden (fun w _ => k125 w)) (hidden (fun w _ => k78 w)) (hidden (fun w _ => k126 w)) (hidden (fun w _ => k59 w)) (hidden (fun w h => k127 w h.1)) (hidden (fun w _ => k48 w)) (hidden (fun w h => k128 w h.1)) (hidden (fun w _ => k35 w)) (hidden (fun w h => k129 w h.1)) (hidden (fun w _ => k36 w)) (hidden (fun w h => k130 w h.1)) (hidden (fun w _ => k109 w)) (hidden (fun w h => k131 w h.1)) (hidden (fun w _ => k111 w)) (hidden (fun w h => k132 w h.1)) (hidden (fun w h => k133 w h.1)) (hidden (fun w h => k134 w h.1)) (hidden (fun w h => k135 w h.1)) (hidden (fun w _ => k44 w)) (hidden (fun w _ => k45 w)) (hidden (fun w _ => k46 w)) (hidden (fun w _ => k47 w)) (hidden (fun w h => k136 w h.1)) (hidden (fun w _ => k53 w)) (hidden (fun w h => k137 w h.1)) (hidden (fun w _ => k56 w)) (hidden (fun w h => k138 w h.1)) (hidden (fun w _ => k57 w))
    (hidden (fun w h => (k139 w h.1 h.2).mono fun _ _ h => h.1)) (hidden (fun w h => (k16 w h.2).mono fun _ _ h => h.1)) (hidden (fun w h => k139 w h.1 h.2)) (hidden (fun hs w h => k140 hs w h.1)) w hg
end Go.Proofs.Qxb6500680aGreatDoor
