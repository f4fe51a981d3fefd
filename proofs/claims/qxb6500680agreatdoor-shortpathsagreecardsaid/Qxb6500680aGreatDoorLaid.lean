import Derived.Test.Qxb6500680aGreatDoorOpen
import Derived.Handed
import Derived.Stop.Joined
import Derived.SevenTiedAt
import Derived.Test.Qxb6500680aGreatDoorTie
import Derived.Test.Qxb6500680aGreatDoorCards
namespace Go.Proofs.Qxb6500680aGreatDoor
open Go.ChangeShapes Go.WideShapes Go.ChangeAt Go.WideMaps Go.WideElems Go.RowKit Go.Deep
/-- The wrap for a row that lists variables, the world's shape kept. -/
theorem lift_laid {H : Type} {enc : TypeId × Value → H} {C : Checked} {os : Os} {f : FuncId} {fn : Func} {s : ChangeSpec} {conds : List PathCond} {L : List (String × DataW Unit)}
    (own : ownKnob C.prog.godebug = none) (started : os.Started) (noInit : C.prog.inits.idxOf? f = none) (hfn : C.prog.funcs[f]? = some fn)
    (witness : ∃ (w : World) (tape : Tape) (i : Input), w.os = os ∧ (w.forCall tape i).Shaped C.prog ∧ i.vars = [] ∧ Input.okWide C.prog (w.forCall tape i) .any w.heap.size f i ∧
      ((s.pre enc C.prog fn conds false (w.forCall tape i).memory i.args ∧ laidMetH C.prog L (w.forCall tape i).memory) ∧ sizedMet enc C.prog fn (OpenSpec.ofChange s) false (w.forCall tape i).memory i.args) ∧ ({} : Assume).holds C.prog (lone (Frame.enter C.prog f i.args .normal) [] (w.forCall tape i)))
    (contract : ∀ (W : World) (base : Nat) (args : Array Value) (ds gs : List (DataW H)) (before : List MemPlace),
      (∀ (j : Nat) t v, fn.params[j]? = some t → args[j]? = some v → Value.okWide C.prog W .any base t v) →
      DataW.Whole enc C.prog fn.params.toList s.vars false W args.toList ds gs before → laidMetH C.prog L W → W.ShapedOpen C.prog →
      Calls C.prog f args W fun e W' => ∃ v, e = .returned v ∧ s.post enc C.prog fn false true false false W args v W') :
    ReturnsInHanded {} C os f .any (fun w args => (s.pre enc C.prog fn conds false w args ∧ laidMetH C.prog L w) ∧ sizedMet enc C.prog fn (OpenSpec.ofChange s) false w args) (s.post enc C.prog fn false true false false) := by
  refine returnsInHanded_of_calls own started noInit witness ?_
  intro w tape i _ hsh _ hok hpre _
  obtain ⟨_, _, _, g, hg, _, _, _, _, hval⟩ := hok
  obtain rfl : g = fn := Option.some.inj (hg.symm.trans hfn)
  obtain ⟨⟨⟨ds, gs, before, hw, _⟩, hx⟩, _⟩ := hpre
  refine (contract _ w.heap.size i.args ds gs before hval (DataW.Whole.of_heap (w' := w.forCall tape i) (by rfl) hw) (laidMetH.of_heap (by rfl) hx) hsh).mono ?_
  rintro e W' ⟨v, rfl, hp⟩
  exact ChangeSpec.post_blind hp
theorem c33 : Tryz.prog.cellsOf 33 = 1 := by kernel_rfl
theorem c35 : Tryz.prog.cellsOf 35 = 3 := by kernel_rfl
set_option maxRecDepth 100000 in
/-- A format read as three numbers lies in three cells. -/
theorem format_cells {W : World} {fuel : Nat} {cs : Array Value} {a b c : Int} {ps : List MemPlace} {name : String} {g : Nat} (hg : Tryz.prog.globalNamed name = some g) (hv : W.var? Tryz.prog name = some cs)
    (hd : DataW.trod (fun _ => ()) Tryz.prog W 0 (fun _ => true) false fuel 35 cs.toList = some (.agg [.lit (.int .u64 a), .lit (.int .u64 b), .lit (.int .u64 c)], ps)) :
    W.cell? ⟨g, 0, none⟩ = some (.int .u64 a) ∧ W.cell? ⟨g, 1, none⟩ = some (.int .u64 b) ∧ W.cell? ⟨g, 2, none⟩ = some (.int .u64 c) := by
  obtain ⟨y0, y1, y2, n, hx, hl, h0, h1, h2⟩ := trod_struct3 Tryz.underlying35 hd
  rw [c35] at hl
  have e0 := World.var?_cell hg hv 0
  have e1 := World.var?_cell hg hv 1
  have e2 := World.var?_cell hg hv 2
  obtain ⟨l⟩ := cs
  match l, hl with
  | [v0, v1, v2], _ =>
    simp only [c33] at h0 h1 h2
    obtain ⟨k0, a0, a1, _⟩ := DataW.trod_int Tryz.underlying33 h0
    obtain ⟨k1, b0, b1, _⟩ := DataW.trod_int Tryz.underlying33 h1
    obtain ⟨k2, d0, d1, _⟩ := DataW.trod_int Tryz.underlying33 h2
    simp at a0 b0 d0
    subst a0 b0 d0 a1 b1 d1
    simp at hx
    obtain ⟨⟨rfl, rfl, rfl⟩, _⟩ := hx
    exact ⟨by simpa using e0, by simpa using e1, by simpa using e2⟩
theorem shape1 : (((begin Tryz.prog (fun _ _ => 0) default).world.heap[1]?).bind Obj.row?) = some (#[.int .u64 0, .int .u64 0, .int .u64 0], 35) := by kernel_rfl
theorem shape2 : (((begin Tryz.prog (fun _ _ => 0) default).world.heap[2]?).bind Obj.row?) = some (#[.int .u64 0, .int .u64 0, .int .u64 0], 35) := by kernel_rfl
theorem nglob : 2 < Tryz.prog.globals.size := by decide +kernel
theorem block_of {W : World} {g : Nat} {cs : Array Value} {a b c : Int} (hb : W.heap[g]? = some (.cells cs 35)) (hs : cs.size = 3) (h0 : W.cell? ⟨g, 0, none⟩ = some (.int .u64 a)) (h1 : W.cell? ⟨g, 1, none⟩ = some (.int .u64 b)) (h2 : W.cell? ⟨g, 2, none⟩ = some (.int .u64 c)) : W.heap[g]? = some (.cells #[.int .u64 a, .int .u64 b, .int .u64 c] 35) := by
  rw [cell_of_cells hb] at h0 h1 h2
  rw [hb]
  obtain ⟨l⟩ := cs
  match l, hs with
  | [x, y, z], _ =>
    simp at h0 h1 h2
    subst h0 h1 h2
    rfl
theorem gw_of {W : World} (hsh : W.ShapedOpen Tryz.prog) (a0 : W.cell? ⟨1, 0, none⟩ = some (.int .u64 32)) (a1 : W.cell? ⟨1, 1, none⟩ = some (.int .u64 8)) (a2 : W.cell? ⟨1, 2, none⟩ = some (.int .u64 23)) (b0 : W.cell? ⟨2, 0, none⟩ = some (.int .u64 64)) (b1 : W.cell? ⟨2, 1, none⟩ = some (.int .u64 11)) (b2 : W.cell? ⟨2, 2, none⟩ = some (.int .u64 52)) : Gw W := by
  have hn := nglob
  obtain ⟨c1, h1, s1, _⟩ := hsh.1 1 _ _ (by omega) shape1
  obtain ⟨c2, h2, s2, _⟩ := hsh.1 2 _ _ (by omega) shape2
  exact ⟨block_of h1 (by simpa using s1) a0 a1 a2, block_of h2 (by simpa using s2) b0 b1 b2⟩
theorem gPow : Tryz.prog.globalNamed "internal/strconv.uint64pow10" = some 9 := by kernel_rfl
theorem tPow : (Tryz.prog.globals[9]?).map (·.type) = some 230 := by kernel_rfl
theorem uPow : Tryz.prog.underlying 230 = some (.array 20 27) := by kernel_rfl
theorem cPow : Tryz.prog.cellsOf 230 = 20 := by kernel_rfl
theorem gB32 : Tryz.prog.globalNamed "e2e/softfp.Binary32" = some 1 := by kernel_rfl
theorem gB64 : Tryz.prog.globalNamed "e2e/softfp.Binary64" = some 2 := by kernel_rfl
theorem tB32 : (Tryz.prog.globals[1]?).map (·.type) = some 35 := by kernel_rfl
theorem tB64 : (Tryz.prog.globals[2]?).map (·.type) = some 35 := by kernel_rfl
end Go.Proofs.Qxb6500680aGreatDoor
