import Derived.Test.Qxb6500680aGreatDoorPats
import Derived.Test.Qxb6500680aGreatDoorTq
namespace Go.Proofs.Qxb6500680aGreatDoor
open Go.RowKit Go.BigFrame
set_option linter.unusedSimpArgs false
attribute [local go_sem] ext_cell_if ext_frozen_if alloc_cell_if alloc_frozen_if ext_size ext_ext
/-- A format's text form: what Text writes, what ParseText reads, and that they fit. -/
structure Tf (W E F : Int) (L : Nat) (TX : Nat → List UInt8) (PR : List UInt8 → Option Nat) : Prop where
  tx : ∀ p : Nat, p < L → ∀ w, Lib.TabIs Tryz.prog w "internal/strconv.uint64pow10" .u64 Lib.pow10Tab → Calls Tryz.prog 16 #[.agg #[.int .u64 W, .int .u64 E, .int .u64 F], .int .u64 p] w (TextE w (TX p))
  pr : ∀ (s : ByteArray), s.size ≤ 100 → ∀ w, Calls Tryz.prog 17 #[.agg #[.int .u64 W, .int .u64 E, .int .u64 F], .string s] w (ParseE (PR s.data.toList) w)
  back : ∀ p, p < L → PR (TX p) = some p
  fwd : ∀ s q, PR s = some q → q < L ∧ TX q = s
  pos : ∀ p, TX p ≠ []
theorem tf32 : Tf 32 8 23 4294967296 (txt 8 23 6 1 127) (parse 8 23 6 1 127) :=
  ⟨fun p hp w h => text32 p (Nat.lt_of_lt_of_le hp (by decide)) w h, fun s hs w => parse32 s hs w, fun p hp => parse_txt fx32 p hp, fun _ _ h => txt_parse fx32 h, fun p => by simp [txt]⟩
theorem tf64 : Tf 64 11 52 18446744073709551616 (txt 11 52 13 0 1023) (parse 11 52 13 0 1023) :=
  ⟨fun p hp w h => text64 p hp w h, fun s hs w => parse64 s hs w, fun p hp => parse_txt fx64 p hp, fun _ _ h => txt_parse fx64 h, fun p => by simp [txt]⟩
/-- A call that answers just this. -/
def Ret (v : Value) (w : World) (e : Ending) (w' : World) : Prop := e = .returned v ∧ ∃ x, w' = ext w x
section
variable {W E F : Int} {L : Nat} {TX : Nat → List UInt8} {PR : List UInt8 → Option Nat} (tf : Tf W E F L TX PR)
include tf
/-- Text of a pattern: a string s of at most 100 bytes, not empty, and ParseText of it gives the pattern back. -/
theorem Tf.text (p : Nat) (hp : p < L) : ∃ s : ByteArray, 0 < s.size ∧ (∀ w, Lib.TabIs Tryz.prog w "internal/strconv.uint64pow10" .u64 Lib.pow10Tab → Calls Tryz.prog 16 #[.agg #[.int .u64 W, .int .u64 E, .int .u64 F], .int .u64 p] w (fun e w' => Ret (.string s) w e w' ∧ s.size ≤ 100)) ∧
    (s.size ≤ 100 → ∀ w, Calls Tryz.prog 17 #[.agg #[.int .u64 W, .int .u64 E, .int .u64 F], .string s] w (Ret (.tuple #[.int .u64 p, .nilIface]) w)) := by
  refine ⟨⟨(TX p).toArray⟩, ?_, fun w h => (tf.tx p hp w h).mono ?_, fun hs w => (tf.pr _ hs w).mono ?_⟩
  · have := tf.pos p
    cases h : TX p with
    | nil => exact absurd h this
    | cons c r => simp [ByteArray.size]
  · rintro e w' ⟨he, hl, hx⟩
    exact ⟨⟨he, hx⟩, by simpa [ByteArray.size] using hl⟩
  · rintro e w' ⟨h, hx⟩
    have hb : PR (TX p) = some p := tf.back p hp
    rcases h with ⟨q, h1, h2⟩ | ⟨h1, _⟩
    · simp only [List.toList_toArray] at h1
      rw [hb] at h1
      cases h1
      exact ⟨h2, hx⟩
    · simp only [List.toList_toArray] at h1
      rw [hb] at h1
      cases h1
/-- ParseText of any text: an error, or a pattern whose text it is. -/
def ParseO (W E F : Int) (s : ByteArray) (w : World) (e : Ending) (w' : World) : Prop := ∃ (v : Int) (er : Value), e = .returned (.tuple #[.int .u64 v, er]) ∧ (ErrV er ∨ (er = .nilIface ∧ ∀ w, Lib.TabIs Tryz.prog w "internal/strconv.uint64pow10" .u64 Lib.pow10Tab → Calls Tryz.prog 16 #[.agg #[.int .u64 W, .int .u64 E, .int .u64 F], .int .u64 v] w (Ret (.string s) w))) ∧ ∃ x, w' = ext w x
theorem Tf.parse (s : ByteArray) (hs : s.size ≤ 100) (w : World) : Calls Tryz.prog 17 #[.agg #[.int .u64 W, .int .u64 E, .int .u64 F], .string s] w (ParseO W E F s w) := by
  refine (tf.pr s hs w).mono ?_
  rintro e w' ⟨h, hx⟩
  rcases h with ⟨q, h1, h2⟩ | ⟨_, v, er, h1, h2⟩
  · obtain ⟨h3, h4⟩ := tf.fwd _ _ h1
    refine ⟨q, .nilIface, h2, .inr ⟨rfl, fun w h => (tf.tx q h3 w h).mono ?_⟩, hx⟩
    rintro e w' ⟨he, _, hx⟩
    refine ⟨?_, hx⟩
    rw [he, h4]
  · exact ⟨v, er, h2, .inl h1, hx⟩
end
set_option maxRecDepth 100000 in
set_option maxHeartbeats 8000000 in
theorem law5 (sv : Value) (n : Nat) (w : World) (hs : Scr w sv n) (hn : n ≤ 9223372036854775807) (hw : Gw w) (ht : Lib.TabIs Tryz.prog w "internal/strconv.uint64pow10" .u64 Lib.pow10Tab) : Calls Tryz.prog 5 #[sv] w fun e w' => e = .returned (.bool true) ∧ ∃ x, w' = ext w x := by
  have RS := hidden (fun (h : n ≤ 65536) => resolve_any play_any sv n w hs h hw ht)
  have HGL := hidden (fun (w1 : World) (g : Gr w.heap.size w w1) => (Gw.gr w w1 hw g).glob)
  have HTB := hidden (fun (w1 : World) (g : Gr w.heap.size w w1) => ((Lib.tabBelow_of_tabIs ht).on g.1).here)
  obtain ⟨sa, sc, rfl, hs⟩ := hs
  have SM := hidden (small_any sa n sc w hn)
  clear hs hw ht
  go_enter Tryz.func5, Tryz.ntmps5
  by_cases h : n ≤ 65536
  · have RS := hidden (RS.out h)
    go_upto_region 3 with (go_at_call 10; (with_reducible refine SM.out.mono ?_); rintro _ w ⟨rfl, rfl⟩)
    clear SM
    go_wp2_with (go_at_call 11; (with_reducible refine RS.out.mono ?_); rintro _ w1 ⟨ob, c, rfl, hco, hall, hg⟩)
    have HCO := hidden hco
    have HALL := hidden hall
    have HG := hidden hg
    clear hco hall hg RS
    go_loopw [4, 5, 7, 8, 9, 10, 11, 12, 13, 14, 15, 16, 23] (fun _ _ _ _ _ _ _ _ _ _ _ _ s23 wi => ∃ i : Nat, s23 = .int .i64 i ∧ i ≤ n ∧ wi.heap[ob]? = some (.cells c 29) ∧ Gr w.heap.size w wi) (fun _ _ _ _ _ _ _ _ _ _ _ _ s23 _ => (n - intOf s23).toNat)
    case atStart => exact ⟨0, rfl, by omega, HCO.out, HG.out⟩
    case round =>
      obtain ⟨i, rfl, hi, hco, hgi⟩ := hrel
      clear HCO HG w1
      by_cases hin : i < n
      · obtain ⟨k, W, md, ch, A, B, N, e0, e1, e2, e3, e4, e5, e6, h1, h2, h3, h4, h5, h6⟩ := HALL.out i hin
        have o0 : wr.cell? ⟨ob, i * 7, none⟩ = some (.int .u8 k) := (cell_of_cells hco (i * 7)).trans e0
        have o1 : wr.cell? ⟨ob, i * 7 + 1, none⟩ = some (.int .i64 W) := (cell_of_cells hco (i * 7 + 1)).trans e1
        have o2 : wr.cell? ⟨ob, i * 7 + 2, none⟩ = some (.int .u8 md) := (cell_of_cells hco (i * 7 + 2)).trans e2
        have o3 : wr.cell? ⟨ob, i * 7 + 3, none⟩ = some (.bool ch) := (cell_of_cells hco (i * 7 + 3)).trans e3
        have o4 : wr.cell? ⟨ob, i * 7 + 4, none⟩ = some (.int .u64 A) := (cell_of_cells hco (i * 7 + 4)).trans e4
        have o5 : wr.cell? ⟨ob, i * 7 + 5, none⟩ = some (.int .u64 B) := (cell_of_cells hco (i * 7 + 5)).trans e5
        have o6 : wr.cell? ⟨ob, i * 7 + 6, none⟩ = some (.int .i64 N) := (cell_of_cells hco (i * 7 + 6)).trans e6
        have lo := lt_of_cells hco
        have HCO := hidden hco
        have HGI := hidden hgi
        have PT := hidden (fun (w1 : World) (g : Gr w.heap.size w w1) => patterns_any k W md ch A B N h2 h4 h5 w1 (HGL.out w1 g))
        obtain ⟨E, F, L, TX, PR, hF, htf, hpat⟩ : ∃ (E F : Int) (L : Nat) (TX : Nat → List UInt8) (PR : List UInt8 → Option Nat), Fm W E F ∧ Tf W E F L TX PR ∧ ∀ p, PatR W p → ∃ z : Nat, p = z ∧ z < L := by
          rcases h2 with rfl | rfl
          · refine ⟨8, 23, _, _, _, .inl ⟨rfl, rfl, rfl⟩, tf32, fun p hp => ?_⟩
            rcases hp with ⟨_, a, b⟩ | ⟨a, _⟩
            · exact ⟨p.toNat, by omega, by omega⟩
            · cases a
          · refine ⟨11, 52, _, _, _, .inr ⟨rfl, rfl, rfl⟩, tf64, fun p hp => ?_⟩
            rcases hp with ⟨a, _⟩ | ⟨_, a, b⟩
            · cases a
            · exact ⟨p.toNat, by omega, by omega⟩
        have FT := hidden (fun (w1 : World) (g : Gr w.heap.size w w1) => format_any hF w1 (HGL.out w1 g))
        have TF := hidden htf
        have HPT := hidden hpat
        clear e0 e1 e2 e3 e4 e5 e6 h1 h2 h3 h4 h5 h6 hco hgi htf hpat hF
        obtain ⟨vb, hvb⟩ : ∃ vb, vb = wr.heap.size := ⟨_, rfl⟩
        go_upto_region 6 with (fail)
        refine wp_gen (fun w2 => w2.heap[ob]? = some (.cells c 29) ∧ w2.heap[vb]? = some (.cells #[.int .u8 k, .int .i64 W, .int .u8 md, .bool ch, .int .u64 A, .int .u64 B, .int .i64 N] 29) ∧ Gr w.heap.size w w2) ⟨blk_alloc HCO.out, by rw [hvb]; exact heap_new _ _, HGI.out.alloc _⟩ ?_
        simp only [← hvb]
        clear hvb o0 o1 o2 o3 o4 o5 o6 lo HCO HGI
        rintro w2 ⟨b1, b2, hg⟩
        have o1 : w2.cell? ⟨vb, 1, none⟩ = some (.int .i64 W) := cell_of_cells b2 1
        have lo := lt_of_cells b2
        have HG2 := hidden hg
        have B1 := hidden b1
        have B2 := hidden b2
        have FT := hidden (FT.out w2 hg)
        clear b1 b2 hg
        go_upto_region 7 with (go_at_call 15; (with_reducible refine FT.out.mono ?_); rintro _ _ ⟨rfl, x1, rfl⟩)
        obtain ⟨fb, hfb⟩ : ∃ fb, fb = (ext w2 x1).heap.size := ⟨_, rfl⟩
        refine wp_gen (fun w3 => w3.heap[ob]? = some (.cells c 29) ∧ w3.heap[vb]? = some (.cells #[.int .u8 k, .int .i64 W, .int .u8 md, .bool ch, .int .u64 A, .int .u64 B, .int .i64 N] 29) ∧ w3.heap[fb]? = some (.cells #[.int .u64 W, .int .u64 E, .int .u64 F] 35) ∧ Gr w.heap.size w w3) ⟨blk_alloc (blk_ext B1.out), blk_alloc (blk_ext B2.out), by rw [hfb]; exact heap_new _ _, (HG2.out.ext _).alloc _⟩ ?_
        rw [ext_size] at hfb
        simp only [← hfb]
        clear hfb o1 lo B1 B2 HG2 FT
        rintro w3 ⟨b1, b2, b3, hg⟩
        have o0 : w3.cell? ⟨vb, 0, none⟩ = some (.int .u8 k) := cell_of_cells b2 0
        have o1 : w3.cell? ⟨vb, 1, none⟩ = some (.int .i64 W) := cell_of_cells b2 1
        have o2 : w3.cell? ⟨vb, 2, none⟩ = some (.int .u8 md) := cell_of_cells b2 2
        have o3 : w3.cell? ⟨vb, 3, none⟩ = some (.bool ch) := cell_of_cells b2 3
        have o4 : w3.cell? ⟨vb, 4, none⟩ = some (.int .u64 A) := cell_of_cells b2 4
        have o5 : w3.cell? ⟨vb, 5, none⟩ = some (.int .u64 B) := cell_of_cells b2 5
        have o6 : w3.cell? ⟨vb, 6, none⟩ = some (.int .i64 N) := cell_of_cells b2 6
        have lo := lt_of_cells b2
        have HG3 := hidden hg
        have B1 := hidden b1
        have B2 := hidden b2
        have B3 := hidden b3
        have PT := hidden (PT.out w3 hg)
        clear b1 b2 b3 hg
        go_wp2_with (go_at_call 12; (with_reducible refine PT.out.mono ?_); rintro _ _ ⟨p, q, rfl, hp, hq, x2, rfl⟩)
        obtain ⟨zp, rfl, hzp⟩ := HPT.out p hp
        obtain ⟨zq, rfl, hzq⟩ := HPT.out q hq
        have IX : Hid (∀ j : Nat, j < 2 → ∃ z : Nat, z < L ∧ ∀ w, (Instr.index 30 (.agg #[.int .u64 zp, .int .u64 zq]) (.int .i64 j)).run Tryz.prog w = .ok (.int .u64 z) w) := hidden (fun j hj => by
          rcases j with _ | _ | j
          · exact ⟨zp, hzp, fun w => by kernel_rfl⟩
          · exact ⟨zq, hzq, fun w => by kernel_rfl⟩
          · omega)
        clear hp hq PT o0 o1 o2 o3 o4 o5 o6 lo HPT hzp hzq
        go_loopw [7, 8, 9, 10, 11, 12, 13, 14, 15, 16, 32] (fun _ _ _ _ _ _ _ _ _ _ s32 wi => ∃ j : Nat, s32 = .int .i64 j ∧ j ≤ 2 ∧ wi.heap[ob]? = some (.cells c 29) ∧ wi.heap[vb]? = some (.cells #[.int .u8 k, .int .i64 W, .int .u8 md, .bool ch, .int .u64 A, .int .u64 B, .int .i64 N] 29) ∧ wi.heap[fb]? = some (.cells #[.int .u64 W, .int .u64 E, .int .u64 F] 35) ∧ Gr w.heap.size w wi) (fun _ _ _ _ _ _ _ _ _ _ s32 _ => (2 - intOf s32).toNat)
        case atStart => exact ⟨0, rfl, by omega, blk_ext B1.out, blk_ext B2.out, blk_ext B3.out, HG3.out.ext _⟩
        case round =>
          obtain ⟨j, rfl, hj, d1, d2, d3, hgj⟩ := hrel
          clear B1 B2 B3 HG3
          by_cases hj2 : j < 2
          · obtain ⟨z, hz, hix⟩ := IX.out j hj2
            obtain ⟨s, hs0, ht1, ht2⟩ := TF.out.text z hz
            go_upto_region 10 with (fail)
            have o0 : wr.cell? ⟨vb, 0, none⟩ = some (.int .u8 k) := cell_of_cells d2 0
            have o1 : wr.cell? ⟨vb, 1, none⟩ = some (.int .i64 W) := cell_of_cells d2 1
            have o2 : wr.cell? ⟨vb, 2, none⟩ = some (.int .u8 md) := cell_of_cells d2 2
            have o3 : wr.cell? ⟨vb, 3, none⟩ = some (.bool ch) := cell_of_cells d2 3
            have o4 : wr.cell? ⟨vb, 4, none⟩ = some (.int .u64 A) := cell_of_cells d2 4
            have o5 : wr.cell? ⟨vb, 5, none⟩ = some (.int .u64 B) := cell_of_cells d2 5
            have o6 : wr.cell? ⟨vb, 6, none⟩ = some (.int .i64 N) := cell_of_cells d2 6
            have lo := lt_of_cells d2
            have f0 : wr.cell? ⟨fb, 0, none⟩ = some (.int .u64 W) := cell_of_cells d3 0
            have f1 : wr.cell? ⟨fb, 1, none⟩ = some (.int .u64 E) := cell_of_cells d3 1
            have f2 : wr.cell? ⟨fb, 2, none⟩ = some (.int .u64 F) := cell_of_cells d3 2
            have lf := lt_of_cells d3
            have fin : Hid (∀ x, (∃ j' : Nat, Value.int .i64 ((j : Int) + 1) = .int .i64 j' ∧ j' ≤ 2 ∧ (ext wr x).heap[ob]? = some (.cells c 29) ∧ (ext wr x).heap[vb]? = some (.cells #[.int .u8 k, .int .i64 W, .int .u8 md, .bool ch, .int .u64 A, .int .u64 B, .int .i64 N] 29) ∧ (ext wr x).heap[fb]? = some (.cells #[.int .u64 W, .int .u64 E, .int .u64 F] 35) ∧ Gr w.heap.size w (ext wr x)) ∧ ((2 : Int) - intOf (.int .i64 ((j : Int) + 1))).toNat < ((2 : Int) - intOf (.int .i64 (j : Int))).toNat) := hidden (fun x => ⟨⟨j + 1, rfl, by omega, blk_ext d1, blk_ext d2, blk_ext d3, hgj.ext x⟩, by simp [intOf]; omega⟩)
            have HT1 := hidden (ht1 wr (HTB.out _ hgj))
            have HT2 := hidden ht2
            have HTX := hidden (fun x => HTB.out (ext wr x) (hgj.ext x))
            have TP := hidden (fun s hs w => TF.out.parse s hs w)
            have hs0' : Hid (0 < s.size) := hidden hs0
            clear d1 d2 d3 hgj ht1 ht2 hs0 IX hix
            go_upto_region 11 with (go_at_call 16; (with_reducible refine HT1.out.mono ?_); rintro _ _ ⟨⟨rfl, x4, rfl⟩, hs1⟩)
            have HT2 := hidden (HT2.out hs1)
            have AL := hidden (fun w => alter_any s hs1 k W md ch A B N w)
            clear HT1
            go_upto_region 14 with (go_at_call 17; (with_reducible refine (HT2.out _).mono ?_); rintro _ _ ⟨rfl, x5, rfl⟩)
            go_upto_region 15 with (go_at_call 18; (with_reducible refine (AL.out _).mono ?_); rintro _ _ ⟨s2, rfl, hs2, x6, rfl⟩)
            clear AL
            go_upto_region 16 with (go_at_call 17; (with_reducible refine (TP.out s2 hs2 _).mono ?_); rintro _ _ ⟨v2, er2, rfl, hor, x7, rfl⟩)
            obtain ⟨kq, hkq, hkl⟩ : ∃ kq : Nat, wrap64 ((IntKind.u64.wrap N).tmod (s.size : Int)) = kq ∧ kq ≤ s.size := by
              have h1 := wr_bd N
              have h0 := hs0'.out
              have h2 := Int.tmod_lt_of_pos (IntKind.u64.wrap N) (b := (s.size : Int)) (by omega)
              have h3 := Int.tmod_nonneg (s.size : Int) h1.1
              exact ⟨((IntKind.u64.wrap N).tmod (s.size : Int)).toNat, by unfold wrap64; omega, by omega⟩
            have hs0 := hs0'.out
            rcases hor with ⟨eb, rfl⟩ | ⟨rfl, hT⟩
            · go_upto_region 18 with (fail)
              go_upto_region 19 with (fail)
              try simp only [hkq]
              obtain ⟨s3, hs3e⟩ : ∃ s3, s.extract 0 kq = s3 := ⟨_, rfl⟩
              have hs3 : s3.size ≤ 100 := by rw [← hs3e]; simp; omega
              simp only [hs3e]
              clear hs3e
              go_upto_region 20 with (go_at_call 17; (with_reducible refine (TP.out s3 hs3 _).mono ?_); rintro _ _ ⟨v3, er3, rfl, hor3, x9, rfl⟩)
              rcases hor3 with ⟨eb3, rfl⟩ | ⟨rfl, hT3⟩
              · go_wp2_with (fail)
                exact fin.out _
              · have HT3 := hidden (fun x => hT3 (ext wr x) (HTX.out x))
                clear hT3
                go_wp2_with (go_at_call 16; (with_reducible refine (HT3.out _).mono ?_); rintro _ _ ⟨rfl, x10, rfl⟩)
                exact fin.out _
            · have HT := hidden (fun x => hT (ext wr x) (HTX.out x))
              clear hT
              go_upto_region 18 with (go_at_call 16; (with_reducible refine (HT.out _).mono ?_); rintro _ _ ⟨rfl, x8, rfl⟩)
              clear HT
              go_upto_region 19 with (fail)
              try simp only [hkq]
              obtain ⟨s3, hs3e⟩ : ∃ s3, s.extract 0 kq = s3 := ⟨_, rfl⟩
              have hs3 : s3.size ≤ 100 := by rw [← hs3e]; simp; omega
              simp only [hs3e]
              clear hs3e
              go_upto_region 20 with (go_at_call 17; (with_reducible refine (TP.out s3 hs3 _).mono ?_); rintro _ _ ⟨v3, er3, rfl, hor3, x9, rfl⟩)
              rcases hor3 with ⟨eb3, rfl⟩ | ⟨rfl, hT3⟩
              · go_wp2_with (fail)
                exact fin.out _
              · have HT3 := hidden (fun x => hT3 (ext wr x) (HTX.out x))
                clear hT3
                go_wp2_with (go_at_call 16; (with_reducible refine (HT3.out _).mono ?_); rintro _ _ ⟨rfl, x10, rfl⟩)
                exact fin.out _
          · have D1 := hidden d1
            have HGJ := hidden hgj
            clear d1 d2 d3 hgj
            go_wp2_with (fail)
            exact ⟨⟨i + 1, rfl, by omega, D1.out, HGJ.out⟩, by simp [intOf]; omega⟩
      · have HGI := hidden hgi
        clear hco hgi
        go_wp2_with (fail)
        go_ret
        exact ⟨rfl, Gr.of HGI.out⟩
  · go_wp2_with (go_at_call 10; (with_reducible refine SM.out.mono ?_); rintro _ w ⟨rfl, rfl⟩)
    go_ret
    exact ⟨rfl, Gr.of (Gr.refl _)⟩
end Go.Proofs.Qxb6500680aGreatDoor
