import Derived.Test.Qxb6500680aGreatDoorSt
namespace Go.Proofs.Qxb6500680aGreatDoor
open Go.RowKit Go.BigFrame
set_option linter.unusedSimpArgs false
set_option linter.unusedSectionVars false
attribute [local go_sem] ext_cell_if ext_frozen_if alloc_cell_if alloc_frozen_if ext_size ext_ext
/-! roundPack, to the nearest and even. -/
def rpScale (BI : Nat) (top : Int) : Int := if top < 1 - (BI : Int) then 1 - (BI : Int) else top
/-- What is kept, the half bit, whether anything lies below. -/
def rpCut (hi lo : Nat) (drop : Int) (st : Bool) : Nat × Bool × Bool := if drop ≤ 0 then (lo * 2 ^ min (-drop).toNat 64 % 18446744073709551616, false, st) else ((cut128 hi lo drop.toNat).1, (cut128 hi lo drop.toNat).2.1, st || (cut128 hi lo drop.toNat).2.2)
def rpUp (c : Nat × Bool × Bool) : Nat := if c.2.1 && (c.2.2 || c.1 % 2 == 1) then (c.1 + 1) % 18446744073709551616 else c.1
def rpMag (HB BI : Nat) (scale : Int) (u : Nat) : Nat := ((scale + BI - 1).toNat * HB % 18446744073709551616 + u) % 18446744073709551616
def rpEnd (BI SM EM HB : Nat) (neg : Bool) (top : Int) (c : Nat × Bool × Bool) : Nat × Int :=
  if EM ≤ rpMag HB BI (rpScale BI top) (rpUp c) then (EM + sgw SM neg, 5) else (rpMag HB BI (rpScale BI top) (rpUp c) + sgw SM neg, if c.2.1 || c.2.2 then (if top < 1 - (BI : Int) then 3 else 1) else 0)
def rpN (F BI SM EM HB : Nat) (neg : Bool) (exp : Int) (hi lo : Nat) (st : Bool) : Nat × Int :=
  if len128 hi lo = 0 then (sgw SM neg, 0)
  else if (BI : Int) < exp + (len128 hi lo : Nat) - 1 then (EM + sgw SM neg, 5)
  else rpEnd BI SM EM HB neg (exp + (len128 hi lo : Nat) - 1) (rpCut hi lo (rpScale BI (exp + (len128 hi lo : Nat) - 1) - F - exp) st)
theorem rpnum1 (exp : Int) (n : Nat) (h0 : -100000 ≤ exp) (h1 : exp ≤ 100000) (h2 : n ≤ 128) : wrap64 (exp + n) = exp + n ∧ wrap64 (exp + n - 1) = exp + n - 1 := by unfold wrap64; omega
theorem rpnum2 (scale exp : Int) (F : Nat) (h0 : -100000 ≤ exp) (h1 : exp ≤ 100000) (h2 : F ≤ 52) (h3 : -200000 ≤ scale) (h4 : scale ≤ 200000) : wrap64 (F : Int) = F ∧ wrap64 (scale - F) = scale - F ∧ wrap64 (scale - F - exp) = scale - F - exp := by unfold wrap64; omega
theorem rpnum3 (drop : Int) (h0 : -400000 ≤ drop) (h1 : drop ≤ 0) : wrap64 (-drop) = ((-drop).toNat : Nat) ∧ IntKind.u64.wrap (((-drop).toNat : Nat) : Int) = ((-drop).toNat : Nat) := by rw [IntKind.wrap_u64]; unfold wrap64; omega
theorem rpnum4 (drop : Int) (h0 : 0 < drop) (h1 : drop ≤ 400000) : IntKind.u64.wrap drop = (drop.toNat : Nat) := by rw [IntKind.wrap_u64]; omega
theorem rpnum5 (scale : Int) (BI : Nat) (h1 : BI ≤ 1023) (h3 : 1 - (BI : Int) ≤ scale) (h4 : scale ≤ BI) : wrap64 (scale + BI) = scale + BI ∧ wrap64 (scale + BI - 1) = scale + BI - 1 ∧ IntKind.u64.wrap (scale + BI - 1) = ((scale + BI - 1).toNat : Nat) := by rw [IntKind.wrap_u64]; unfold wrap64; omega
theorem rpscale_bd (BI : Nat) (top : Int) (h : ¬ (BI : Int) < top) (hb : 1 ≤ BI) : 1 - (BI : Int) ≤ rpScale BI top ∧ rpScale BI top ≤ BI := by unfold rpScale; split <;> omega
theorem len128_le (hi lo : Nat) : len128 hi lo ≤ 128 := by
  unfold len128
  have := len_le hi
  have := len_le lo
  split <;> omega
theorem wr_add (a b : Nat) : IntKind.u64.wrap ((a : Int) + (b : Int)) = (((a + b) % 18446744073709551616 : Nat) : Int) := by rw [← wr_mod]; simp
theorem wr_add1 (a : Nat) : IntKind.u64.wrap ((a : Int) + 1) = (((a + 1) % 18446744073709551616 : Nat) : Int) := by rw [← wr_mod]; simp
theorem cut_u (hi lo n : Nat) (hh : U64 hi) (hl : U64 lo) : U64 (cut128 hi lo n).1 := by
  unfold cut128 shr128
  split
  · unfold U64; omega
  · dsimp only
    split
    · exact hl
    · split
      · exact Nat.or_lt_two_pow (n := 64) (div_u hl _) (Nat.mod_lt _ (by decide))
      · split
        · exact div_u hh _
        · unfold U64; omega
theorem rpCut_u (hi lo : Nat) (drop : Int) (st : Bool) (hh : U64 hi) (hl : U64 lo) : U64 (rpCut hi lo drop st).1 := by
  unfold rpCut
  split
  · exact Nat.mod_lt _ (by decide)
  · exact cut_u hi lo _ hh hl
section
variable {W E F BI SM MM PM HB FM EM QB MB : Nat} (k : Fk W E F BI SM MM PM HB FM EM QB MB)
include k
set_option maxRecDepth 100000 in
set_option maxHeartbeats 2000000 in
theorem Fk.roundPack (neg : Bool) (exp : Int) (hi lo : Nat) (st : Bool) (hh : U64 hi) (hl : U64 lo) (he0 : -100000 ≤ exp) (he1 : exp ≤ 100000) (w : World) : Calls Tryz.prog 97 #[(.agg #[.int .u64 W, .int .u64 E, .int .u64 F]), .int .u8 0, .bool neg, .int .i64 exp, .agg #[.int .u64 hi, .int .u64 lo], .bool st] w (Rt (.tuple #[.int .u64 ((rpN F BI SM EM HB neg exp hi lo st).1 : Nat), .int .u8 (rpN F BI SM EM HB neg exp hi lo st).2]) w) := by
  have C174 := hidden (fun w => bitLen_eq hi lo hh hl w)
  have C94 := hidden (fun w => k.zero neg w)
  have C195 := hidden (fun w => k.overflow neg w)
  have C192 := hidden k.c192
  have C187 := hidden k.c187
  have C145 := hidden k.c145
  have C85 := hidden k.c85
  have C196 := hidden (fun n h1 w => cut_eq hi lo n hh hl h1 w)
  have CU := hidden (fun d s => rpCut_u hi lo d s hh hl)
  have WS := hidden (fun m h w => k.withSign m neg h w)
  have SH := hidden (fun p => k.sh p)
  have HB8 := hidden k.r8
  have HEM : Hid (∀ m, ¬ EM ≤ m → m < SM) := hidden (fun m h => by have := k.r3; omega)
  have hn := len128_le hi lo
  have HB2 := hidden k.b2
  have HB4 := hidden k.b4
  have HB1 := hidden k.b1
  obtain ⟨R, hR⟩ : ∃ R, rpN F BI SM EM HB neg exp hi lo st = R := ⟨_, rfl⟩
  rw [hR]
  unfold rpN at hR
  generalize len128 hi lo = n at *
  have HR := hidden hR
  clear k hR
  have H0 := hidden he0
  have H1 := hidden he1
  clear he0 he1 hh hl
  obtain ⟨fb, hfb⟩ : ∃ fb, fb = w.heap.size := ⟨_, rfl⟩
  obtain ⟨sb, hsb⟩ : ∃ sb, sb = fb + 1 := ⟨_, rfl⟩
  go_enter Tryz.func97, Tryz.ntmps97
  go_upto_region 1 with (fail)
  refine wp_gen (fun w1 => w1.heap[fb]? = some (.cells #[.int .u64 W, .int .u64 E, .int .u64 F] 35) ∧ w1.heap[sb]? = some (.cells #[.int .u64 hi, .int .u64 lo] 134) ∧ Gr w.heap.size w w1) ?_ ?_
  · subst hfb
    refine ⟨blk_alloc (heap_new _ _), ?_, ((Gr.refl w).alloc _).alloc _⟩
    rw [hsb]
    have e : w.heap.size + 1 = (w.alloc (.cells #[.int .u64 W, .int .u64 E, .int .u64 F] 35)).heap.size := by simp
    rw [e]
    exact heap_new _ _
  simp only [← hfb, ← hsb]
  rintro w1 ⟨b1, b2, g1⟩
  rw [hfb] at g1
  clear hfb hsb
  have f0 : w1.cell? ⟨fb, 0, none⟩ = some (.int .u64 W) := cell_of_cells b1 0
  have f1 : w1.cell? ⟨fb, 1, none⟩ = some (.int .u64 E) := cell_of_cells b1 1
  have f2 : w1.cell? ⟨fb, 2, none⟩ = some (.int .u64 F) := cell_of_cells b1 2
  have s0 : w1.cell? ⟨sb, 0, none⟩ = some (.int .u64 hi) := cell_of_cells b2 0
  have s1 : w1.cell? ⟨sb, 1, none⟩ = some (.int .u64 lo) := cell_of_cells b2 1
  have lf := lt_of_cells b1
  have ls := lt_of_cells b2
  have G1 := hidden g1
  clear b1 b2 g1
  by_cases cn : n = 0
  · subst cn
    have hR := HR.out
    simp only [if_true] at hR
    subst hR
    clear hn HR
    go_wp2_with (first | (go_at_call 174; (with_reducible refine (C174.out _).mono ?_); rintro _ _ ⟨rfl, x174, rfl⟩) | (go_at_call 94; (with_reducible refine (C94.out _).mono ?_); rintro _ _ ⟨rfl, x94, rfl⟩))
    go_ret2
    exact ⟨rfl, Gr.of (G1.out.ext _)⟩
  have cn' : ((n : Int) == 0) = false := by rw [nbeq]; simp [cn]
  have hR := HR.out
  clear HR
  rw [if_neg cn] at hR
  obtain ⟨m1, m2⟩ := rpnum1 exp n H0.out H1.out hn
  obtain ⟨t1, ht1⟩ : ∃ t1, exp + (n : Int) = t1 := ⟨_, rfl⟩
  rw [ht1] at m1 m2 hR
  obtain ⟨top, htop⟩ : ∃ top, t1 - 1 = top := ⟨_, rfl⟩
  rw [htop] at m2 hR
  by_cases ctop : (BI : Int) < top
  · rw [if_pos ctop] at hR
    subst hR
    clear hn cn
    go_wp2_with (first | (go_at_call 174; (with_reducible refine (C174.out _).mono ?_); rintro _ _ ⟨rfl, x174, rfl⟩) | (go_at_call 192; (with_reducible refine (C192.out _).mono ?_); rintro _ _ ⟨rfl, x192, rfl⟩) | (go_at_call 195; (with_reducible refine (C195.out _).mono ?_); rintro _ _ ⟨rfl, x195, rfl⟩))
    go_ret2
    exact ⟨rfl, Gr.of (G1.out.ext _)⟩
  rw [if_neg ctop] at hR
  obtain ⟨d0, d1⟩ := rpscale_bd BI top ctop HB1.out
  obtain ⟨m3, m4, m5⟩ := rpnum2 (rpScale BI top) exp F H0.out H1.out HB4.out (by have := HB2.out; omega) (by have := HB2.out; omega)
  obtain ⟨m6, m7, m8⟩ := rpnum5 (rpScale BI top) BI HB2.out d0 d1
  have hdl : rpScale BI top - (F : Int) - exp ≤ 400000 ∧ -400000 ≤ rpScale BI top - (F : Int) - exp := by have h1 := HB2.out; have h2 := HB4.out; have h3 := H0.out; have h4 := H1.out; omega
  unfold rpEnd at hR
  have hscale : ∃ scale, rpScale BI top = scale := ⟨_, rfl⟩
  obtain ⟨scale, hsc⟩ := hscale
  have HSC := hidden hsc
  rw [hsc] at m4 m5 m6 m7 m8 hdl hR
  obtain ⟨dd, hdd⟩ : ∃ dd, scale - (F : Int) = dd := ⟨_, rfl⟩
  rw [hdd] at m4 m5 hdl hR
  obtain ⟨drop, hdrop⟩ : ∃ drop, dd - exp = drop := ⟨_, rfl⟩
  rw [hdrop] at m5 hdl hR
  have cu := CU.out drop st
  obtain ⟨c, hc⟩ : ∃ c, rpCut hi lo drop st = c := ⟨_, rfl⟩
  have HC := hidden hc
  have HDL := hidden hdl
  rw [hc] at cu hR
  have HR := hidden hR
  clear hR
  have M678 := hidden (And.intro m6 (And.intro m7 m8))
  have CUH := hidden cu
  have CTOP := hidden ctop
  clear m6 m7 m8 hsc hc hdl d0 d1 hn cn cu
  obtain ⟨tn, htn⟩ : ∃ tn, decide (top < 1 - (BI : Int)) = tn := ⟨_, rfl⟩
  have HTN := hidden htn
  go_upto_if 50 with (first | (go_at_call 174; (with_reducible refine (C174.out _).mono ?_); rintro _ _ ⟨rfl, x174, rfl⟩) | (go_at_call 192; (with_reducible refine (C192.out _).mono ?_); rintro _ _ ⟨rfl, x192, rfl⟩) | (go_at_call 187; (with_reducible refine (C187.out _).mono ?_); rintro _ _ ⟨rfl, x187, rfl⟩))
  go_cut [17] (fun s17 wc => s17 = .int .i64 scale ∧ ∃ x, wc = ext w1 x)
  case first =>
    cases tn
    · have hsc : scale = top := by have h := HSC.out; unfold rpScale at h; rw [if_neg (by simpa using HTN.out)] at h; exact h.symm
      go_wp2_with (fail)
      go_meet
      case rel => exact ⟨by rw [hsc], _, rfl⟩
    · have hsc : scale = 1 - (BI : Int) := by have h := HSC.out; unfold rpScale at h; rw [if_pos (by simpa using HTN.out)] at h; exact h.symm
      go_wp2_with (go_at_call 187; (with_reducible refine (C187.out _).mono ?_); rintro _ _ ⟨rfl, x187, rfl⟩)
      go_meet
      case rel => exact ⟨by rw [hsc], _, rfl⟩
  case rest =>
    obtain ⟨rfl, x1, rfl⟩ := hcut
    clear m1 m2 cn' ctop htn
    go_upto_if 61 with (fail)
    try simp only [m5]
    clear m3 m4 m5
    go_cut [5, 19, 20, 21] (fun s5 s19 s20 _s21 wc => s5 = .bool c.2.2 ∧ s19 = .int .u64 (c.1 : Nat) ∧ s20 = .bool c.2.1 ∧ ∃ x, wc = ext w1 x)
    case first =>
      by_cases cd : drop ≤ 0
      · have hc : (lo * 2 ^ min (-drop).toNat 64 % 18446744073709551616, false, st) = c := by have h := HC.out; unfold rpCut at h; rw [if_pos cd] at h; exact h
        obtain ⟨m9, m10⟩ := rpnum3 drop HDL.out.2 cd
        have m11 := shl_eq lo (min (-drop).toNat 64)
        obtain ⟨K, hK⟩ : ∃ K, lo * 2 ^ min (-drop).toNat 64 % 18446744073709551616 = K := ⟨_, rfl⟩
        rw [hK] at hc m11
        obtain ⟨kk, hkk⟩ : ∃ kk, (-drop).toNat = kk := ⟨_, rfl⟩
        rw [hkk] at m9 m10 m11
        have M11 := hidden m11
        clear hkk hK m11 HDL HC
        go_wp2_with (fail)
        try simp only [M11.out]
        go_meet
        case rel => subst hc; exact ⟨rfl, congrArg (Value.int .u64) (by first | exact M11.out | (rw [m9, m10]; exact M11.out) | simp [m9, m10, M11.out]), rfl, _, rfl⟩
      · have hc : ((cut128 hi lo drop.toNat).1, (cut128 hi lo drop.toNat).2.1, st || (cut128 hi lo drop.toNat).2.2) = c := by have h := HC.out; unfold rpCut at h; rw [if_neg cd] at h; exact h
        have m9 := rpnum4 drop (by omega) HDL.out.1
        have D196 := hidden (fun w => C196.out drop.toNat (by omega) w)
        obtain ⟨dn, hdn⟩ : ∃ dn, drop.toNat = dn := ⟨_, rfl⟩
        rw [hdn] at m9 D196 hc
        generalize cut128 hi lo dn = q at *
        obtain ⟨q1, q2, q3⟩ := q
        dsimp only at D196 hc
        clear hdn HDL HC C196
        cases st
        · go_wp2_with (go_at_call 196; (with_reducible refine (D196.out _).mono ?_); rintro _ _ ⟨rfl, x2, rfl⟩)
          go_meet
          case rel => subst hc; exact ⟨rfl, rfl, rfl, _, rfl⟩
        · go_wp2_with (go_at_call 196; (with_reducible refine (D196.out _).mono ?_); rintro _ _ ⟨rfl, x2, rfl⟩)
          go_meet
          case rel => subst hc; exact ⟨rfl, rfl, rfl, _, rfl⟩
    case rest =>
      obtain ⟨rfl, rfl, rfl, x2, rfl⟩ := hcut
      clear HDL HC C196 s0 s1 ls
      obtain ⟨kept, half, sticky⟩ := c
      dsimp only at CUH HR ⊢
      have e1 := and1 kept CUH.out
      obtain ⟨odd, hodd⟩ : ∃ odd, (kept % 2 == 1) = odd := ⟨_, rfl⟩
      rw [hodd] at e1
      have C157 := hidden (fun w => roundsUp_eq neg odd half sticky w)
      have hR := HR.out
      unfold rpUp at hR
      dsimp only at hR
      rw [hodd] at hR
      obtain ⟨up, hup⟩ : ∃ up, (half && (sticky || odd)) = up := ⟨_, rfl⟩
      rw [hup] at hR C157
      obtain ⟨u, hu⟩ : ∃ u, (if up = true then (kept + 1) % 18446744073709551616 else kept) = u := ⟨_, rfl⟩
      rw [hu] at hR
      have HU := hidden hu
      clear HR hodd hup hu
      have HR := hidden hR
      clear hR
      go_upto_if 87 with (go_at_call 157; (with_reducible refine (C157.out _).mono ?_); rintro _ _ ⟨rfl, x157, rfl⟩)
      clear e1 C157
      go_cut [19] (fun s19 wc => s19 = .int .u64 (u : Nat) ∧ ∃ x, wc = ext w1 x)
      case first =>
        cases up
        · have hu : kept = u := by have h := HU.out; simpa using h
          go_wp2_with (fail)
          go_meet
          case rel => exact ⟨by rw [hu], _, rfl⟩
        · have hu : (kept + 1) % 18446744073709551616 = u := by have h := HU.out; simpa using h
          have e2 := wr_add1 kept
          rw [hu] at e2
          clear hu
          go_wp2_with (fail)
          go_meet
          case rel => exact ⟨rfl, _, rfl⟩
      case rest =>
        obtain ⟨rfl, x3, rfl⟩ := hcut
        clear HU CUH
        obtain ⟨m6, m7, m8⟩ := M678.out
        have hR := HR.out
        unfold rpMag at hR
        obtain ⟨b1, hb1⟩ : ∃ b1, scale + (BI : Int) = b1 := ⟨_, rfl⟩
        rw [hb1] at m6 m7 m8 hR
        obtain ⟨b2, hb2⟩ : ∃ b2, b1 - 1 = b2 := ⟨_, rfl⟩
        rw [hb2] at m7 m8 hR
        obtain ⟨b3, hb3⟩ : ∃ b3, b2.toNat = b3 := ⟨_, rfl⟩
        rw [hb3] at m8 hR
        have m9 : IntKind.u64.wrap ((b3 : Int) * 2 ^ min F 64) = ((b3 * HB % 18446744073709551616 : Nat) : Int) := by
          rw [Nat.min_eq_left (Nat.le_trans HB4.out (by decide)), HB8.out]
          exact shl_eq b3 F
        obtain ⟨b4, hb4⟩ : ∃ b4, b3 * HB % 18446744073709551616 = b4 := ⟨_, rfl⟩
        rw [hb4] at m9 hR
        have m10 := wr_add b4 u
        obtain ⟨mag, hmag⟩ : ∃ mag, (b4 + u) % 18446744073709551616 = mag := ⟨_, rfl⟩
        rw [hmag] at m10 hR
        have M9 := hidden m9
        have M10 := hidden m10
        clear HR hb3 hb4 hmag m9 m10 M678
        have HR := hidden hR
        clear hR
        go_upto_region 21 with (fail)
        refine wp_region_ext (by kernel_rfl) (by kernel_rfl) ?_
        repeat (go_big_quiet_step ((go_at_call 145; first | with_reducible exact Calls_ext (C145.out _) | with_reducible exact Calls_ext2 (C145.out _))))
        refine wpQuiet_nil ?_
        rintro w2 ⟨x4, rfl⟩
        try simp only [m6, m7, m8]
        try simp only [M9.out]
        try simp only [M10.out]
        clear m6 m7 m8 hb1 hb2
        by_cases cm : EM ≤ mag
        · have hR := HR.out
          rw [if_pos cm] at hR
          subst hR
          go_wp2_with (first | (go_at_call 85; (with_reducible refine (C85.out _).mono ?_); rintro _ _ ⟨rfl, x85, rfl⟩) | (go_at_call 195; (with_reducible refine (C195.out _).mono ?_); rintro _ _ ⟨rfl, x195, rfl⟩))
          go_ret2
          exact ⟨rfl, Gr.of (G1.out.ext _)⟩
        · have hR := HR.out
          rw [if_neg cm] at hR
          have htn := HTN.out
          have C88 := hidden (fun w => WS.out mag (HEM.out mag cm) w)
          have hR2 : (mag + sgw SM neg, if (half || sticky) = true then (if tn = true then (3 : Int) else 1) else 0) = R := by
            rw [← hR, ← htn]
            simp only [decide_eq_true_eq]
          clear hR HR htn
          subst hR2
          cases half <;> cases sticky <;> cases tn
          all_goals
            go_wp2_with (first | (go_at_call 85; (with_reducible refine (C85.out _).mono ?_); rintro _ _ ⟨rfl, x85, rfl⟩) | (go_at_call 88; (with_reducible refine (C88.out _).mono ?_); rintro _ _ ⟨rfl, x88, rfl⟩))
            go_ret2
            exact ⟨rfl, Gr.of (G1.out.ext _)⟩
end
end Go.Proofs.Qxb6500680aGreatDoor
