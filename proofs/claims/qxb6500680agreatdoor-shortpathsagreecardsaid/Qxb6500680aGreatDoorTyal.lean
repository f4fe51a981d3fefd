import Derived.Test.Qxb6500680aGreatDoorTysd
namespace Go.Proofs.Qxb6500680aGreatDoor
open Go.RowKit Go.BigFrame
set_option linter.unusedSimpArgs false
variable {P : Program}
section
variable {sig : Ev} {opd : Operand → Option Sh} {base : Nat} {w0 w : World} {H : Hp} {o : Oper} {a : Act} {Gw : World → Prop}
theorem partsTy_has {fs : Array Field} {Z : List Ce} (hopd : ∀ x s, opd x = some s → HasS H s (a.eval x)) : ∀ {parts : List (Nat × Operand)}, partsTy P opd fs Z parts = true → ∀ p ∈ parts.map (fun (q : Nat × Operand) => (q.1, a.eval q.2)), ∃ f cs, fs[p.1]? = some f ∧ szT P f.type = some cs.length ∧ HasL cs p.2.cells.toList ∧ cs = (Z.drop f.offset).take cs.length ∧ f.offset + cs.length ≤ Z.length
  | [], _, p, hp => by simp at hp
  | (i, x) :: r, h, p, hp => by
    simp only [partsTy, Bool.and_eq_true] at h
    rcases List.mem_cons.1 hp with rfl | hp
    · have h1 := h.1
      split at h1
      · rename_i f s hf hs
        simp only [Bool.and_eq_true, beq_iff_eq, decide_eq_true_eq] at h1
        exact ⟨f, s.cells, hf, h1.1.1, (show Has1 s (a.eval x) from hopd x _ hs).cells, sameL_eq h1.1.2, h1.2⟩
      · cases h1
    · exact partsTy_has hopd h.2 p hp
theorem run_sizes {fs : List Field} (h : fs.all (fun f => (szT P f.type).isSome) = true) (w : World) : (fs.mapM fun f => do pure (f.offset, ← sizeOf f.type) : Sem (List (Nat × Nat))).run P w = .ok (fs.map fun f => (f.offset, (szT P f.type).getD 0)) w := by
  induction fs with
  | nil => simp
  | cons f fs ih =>
    simp only [List.all_cons, Bool.and_eq_true] at h
    obtain ⟨n, hn⟩ := Option.isSome_iff_exists.1 h.1
    simp only [List.mapM_cons, Sem.run_bind, run_sizeOf hn, Result.andThen_ok, Sem.run_pure, ih h.2, List.map_cons, hn, Option.getD_some]
theorem op_sound {r : Option Sh} (hsig : SigOK P Gw sig) (h : opTy P sig opd o.op = some r) (hopd : ∀ x s, opd x = some s → HasS H s (a.eval x)) (hw : WT base H w) (hg : Gr base w0 w) (hGw : Gw w) : OK1 P base w0 H o a w r := by
  cases ho : o.op with
  | binOp op t x y ty => exact sound_bin ho h hopd hw hg
  | move x =>
    rw [ho] at h
    simp only [opTy, Option.map_eq_some_iff] at h
    obtain ⟨s, hs, rfl⟩ := h
    exact OK1.same (v := a.eval x) (by simp [execOp, ho]) hw hg (hopd x s hs)
  | assign x =>
    rw [ho] at h
    simp only [opTy, Option.map_eq_some_iff] at h
    obtain ⟨s, hs, rfl⟩ := h
    exact OK1.same (v := a.eval x) (by simp [execOp, ho]) hw hg (hopd x s hs)
  | pick c x y =>
    rw [ho] at h
    simp only [opTy] at h
    split at h
    · rename_i s t hc hx hy
      split at h
      · rename_i hst
        simp at h
        subst h
        obtain rfl := Sh.is_eq hst
        obtain ⟨b, hb⟩ := hopd c _ hc
        cases b
        · exact OK1.same (v := a.eval y) (by simp [execOp, ho, hb, asBool]) hw hg (hopd y _ hy)
        · exact OK1.same (v := a.eval x) (by simp [execOp, ho, hb, asBool]) hw hg (hopd x _ hx)
      · cases h
    · cases h
  | alloc t =>
    rw [ho] at h
    simp only [opTy, Option.map_eq_some_iff] at h
    obtain ⟨L, hL, rfl⟩ := h
    obtain ⟨z, hz, hzl⟩ := run_zero hL w
    exact OK1.val (v := .pointer (some ⟨w.heap.size, 0, none⟩)) (by simp [execOp, ho, Instr.alloc, hz, newVar, newRow]) (Hp.le_add hw L) (hw.alloc hg.2 t hzl) (hg.alloc _) (fun s e => by
      simp at e
      subst e
      exact ⟨w.heap.size, 0, L, rfl, by simp [Hp.add], by simp⟩)
  | box t x =>
    rw [ho] at h
    simp only [opTy] at h
    split at h
    · rename_i s hs
      simp at h
      subst h
      have hv := (show Has1 s (a.eval x) from hopd x _ hs).cells
      exact OK1.val (v := .pointer (some ⟨w.heap.size, 0, none⟩)) (by simp [execOp, ho, Instr.box, newVar, newRow]) (Hp.le_add hw s.cells) (hw.alloc hg.2 t hv) (hg.alloc _) (fun s' e => by
        simp at e
        subst e
        exact ⟨w.heap.size, 0, s.cells, rfl, by simp [Hp.add], by simp⟩)
    · cases h
  | load t x =>
    rw [ho] at h
    simp only [opTy] at h
    have key : ∀ (base' : Nat) (H' : Hp) (sh : Option Sh), WT base' H' w → (∀ s, sh = some s → HasS H' s (a.eval x)) → (match sh, isAggT P t, szT P t with
        | some (.ptr cs), some true, some n => if n ≤ cs.length then some (some (Sh.one (.agg (cs.take n)))) else none
        | some (.ptr (c :: _)), some false, _ => some (some (Sh.one (.cell c)))
        | _, _, _ => none) = some r → OK1 P base w0 H o a w r := by
      intro base' H' sh hw' hsh h
      split at h
      · rename_i cs n ha hn
        split at h
        · rename_i hl
          simp at h
          subst h
          obtain ⟨b, of, L, e, hb, rfl⟩ := hsh _ rfl
          obtain ⟨v, hr, hv⟩ := run_load_agg ha hn hw' hb hl
          exact OK1.same (v := v) (by simp [execOp, ho, e, hr]) hw hg hv
        · cases h
      · rename_i c cs ha
        simp at h
        subst h
        obtain ⟨b, of, L, e, hb, hL⟩ := hsh _ rfl
        obtain ⟨v, hr, hv⟩ := run_load_one ha hw' hb hL.symm
        exact OK1.same (v := v) (by simp [execOp, ho, e, hr]) hw hg hv
      · cases h
    cases x with
    | global g =>
      simp only at h
      cases hgl : findGl sig.gl g with
      | none => rw [hgl] at h; simp at h
      | some L =>
        obtain ⟨arr, t', h1, h2⟩ := hsig.2 _ (findGl_mem hgl) w hGw
        refine key 0 (fun k => if k = g then some L else none) _ (fun b L' e => ?_) (fun s e => ?_) h
        · have e' : (if b = g then some L else none) = some L' := e
          split at e'
          · rename_i hb
            simp at e'
            subst e'
            subst hb
            exact ⟨Nat.zero_le _, arr, t', h1, h2⟩
          · cases e'
        · rw [hgl] at e
          simp at e
          subst e
          exact ⟨g, 0, L, rfl, by simp, by simp⟩
    | tmp s => exact key base H _ hw (fun s e => hopd _ s e) h
    | const v => exact key base H _ hw (fun s e => hopd _ s e) h
    | func f => exact key base H _ hw (fun s e => hopd _ s e) h
  | store t x y =>
    rw [ho] at h
    simp only [opTy] at h
    split at h
    · rename_i cs s n hx hy hn
      split at h
      · rename_i hc
        simp only [Bool.and_eq_true, decide_eq_true_eq] at hc
        simp at h
        subst h
        obtain ⟨b, of, L, e, hb, rfl⟩ := hopd x _ hx
        obtain ⟨w', hr, h1, h2⟩ := run_store_any hn hw hg hb (show Has1 s (a.eval y) from hopd y _ hy).cells hc.1 (sameL_eq hc.2)
        exact OK1.skip (by simp [execOp, ho, e, hr]) h1 h2
      · cases h
    · cases h
  | fieldAddr s x f =>
    rw [ho] at h
    simp only [opTy] at h
    split at h
    · rename_i fs cs hu hx
      split at h
      · rename_i fd hfd
        split at h
        · rename_i n hn
          simp at h
          subst h
          obtain ⟨b, of, L, e, hb, rfl⟩ := hopd x _ hx
          refine OK1.same (v := .pointer (some ⟨b, of + fd.offset, none⟩)) ?_ hw hg ⟨b, of + fd.offset, L, rfl, hb, by simp⟩
          simp [execOp, ho, e, Instr.fieldAt, run_underlying hu, hfd, Instr.sureAddr, fieldPlace, run_sizeOf hn, Addr.add_lit]
        · cases h
      · cases h
    · cases h
  | unOp op t x =>
    rw [ho] at h
    simp only [opTy] at h
    split at h
    · rename_i k hx
      simp at h
      subst h
      obtain ⟨n, e, hn⟩ := hopd x _ hx
      exact OK1.same (v := .int k (k.wrap (0 - n))) (by simp [execOp, ho, e, Op.unary, Op.intArith]) hw hg (has_int _)
    · rename_i k hx
      simp at h
      subst h
      obtain ⟨n, e, hn⟩ := hopd x _ hx
      exact OK1.same (v := .int k (k.wrap (BitVec.ofInt k.bits (if k.signed then -1 else k.max) ^^^ BitVec.ofInt k.bits n).toNat)) (by simp [execOp, ho, e, Op.unary, Op.intBits]) hw hg (has_int _)
    · rename_i hx
      simp at h
      subst h
      obtain ⟨b, e⟩ := hopd x _ hx
      exact OK1.same (v := .bool !b) (by simp [execOp, ho, e, Op.unary]) hw hg (has_bool _)
    · cases h
  | convert src dst x =>
    rw [ho] at h
    simp only [opTy] at h
    split at h
    · rename_i d k k' hs hd hx
      simp at h
      subst h
      obtain ⟨n, e, hn⟩ := hopd x _ hx
      exact OK1.same (v := .int k (k.wrap n)) (by simp [execOp, ho, e, convert, run_underlying hs, run_underlying hd, Conv.intToInt]) hw hg (has_int _)
    · cases h
  | build t parts =>
    rw [ho] at h
    simp only [opTy] at h
    split at h
    · rename_i fs Z hu hz
      split at h
      · rename_i hc
        simp only [Bool.and_eq_true] at hc
        simp at h
        subst h
        obtain ⟨z, hzr, hzl⟩ := run_zero hz w
        have hp := partsTy_has hopd hc.2
        obtain ⟨out, ho1, ho2⟩ := fill_has (place := fun i => ((fs.map fun f => (f.offset, (szT P f.type).getD 0))[i]?)) (parts := parts.toList.map (fun (q : Nat × Operand) => (q.1, a.eval q.2))) hzl (fun p hp' => by
          obtain ⟨f, cs, h1, h2, h3, h4, h5⟩ := hp p hp'
          exact ⟨f.offset, cs, by simp [h1, h2], h3, h4, h5⟩)
        have hm : (fs.mapM fun f => do pure (f.offset, ← sizeOf f.type) : Sem (Array (Nat × Nat))).run P w = .ok (fs.map fun f => (f.offset, (szT P f.type).getD 0)) w := by
          have h9 := run_sizes (P := P) (fs := fs.toList) hc.1 w
          rw [Array.mapM_eq_mapM_toList]
          simp only [map_eq_pure_bind, Sem.run_bind, h9, Result.andThen_ok, Sem.run_pure]
          congr 1
          apply Array.toList_inj.1
          simp
        refine OK1.same (v := .agg out) ?_ hw hg ⟨out, rfl, ho2⟩
        have ho1' : Instr.fill (fun i => (fs.map fun f => (f.offset, (szT P f.type).getD 0))[i]?) z.cells (parts.map fun (x : Nat × Operand) => (x.1, a.eval x.2)).toList = some out := by rw [Array.toList_map]; exact ho1
        simp only [execOp, ho, Instr.build, Sem.run_bind, hzr, run_underlying hu, Result.andThen_ok, hm]
        rw [ho1']
        rfl
      · cases h
    · cases h
  | extract x i =>
    rw [ho] at h
    simp only [opTy] at h
    split at h
    · rename_i ss hx
      simp only [Option.map_eq_some_iff] at h
      obtain ⟨s, hs, rfl⟩ := h
      obtain ⟨arr, e, ht⟩ := hopd x _ hx
      obtain ⟨v, hv, hv1⟩ := ht.get hs
      have hv' : arr[i]? = some v := by simpa using hv
      exact OK1.same (v := v) (by simp [execOp, ho, e, Instr.extract, hv']) hw hg hv1
    · cases h
  | field t x f =>
    rw [ho] at h
    simp only [opTy] at h
    split at h
    · rename_i fs cs hu hx
      split at h
      · rename_i fd hfd
        split at h
        · rename_i hag
          simp only [Option.map_eq_some_iff] at h
          obtain ⟨c, hc, rfl⟩ := h
          obtain ⟨arr, e, hl⟩ := hopd x _ hx
          obtain ⟨v, hv, hv1⟩ := hl.get hc
          have hv' : arr[fd.offset]? = some v := by simpa using hv
          exact OK1.same (v := v) (by simp [execOp, ho, e, Instr.field, run_underlying hu, hfd, part, run_isAgg hag, hv', asAgg]) hw hg hv1
        · cases h
      · cases h
    · cases h
  | call c =>
    rw [ho] at h
    simp only [opTy] at h
    split at h
    · rename_i f hf
      split at h
      · rename_i g hgs
        split at h
        · rename_i hargs
          simp at h
          subst h
          obtain ⟨hmem, rfl⟩ := findSg_mem hgs
          have hargs' := argsTy_has hopd hargs
          have hcall := hsig.1 g hmem (c.args.map a.eval) (by rw [Array.toList_map]; exact hargs') w hGw
          have hrun : (execOp a.eval o).run P w = (callFunc g.f (c.args.map a.eval)).run P w := by simp [execOp, ho, resolve, hf, Act.eval, Deferred.ofValue, invoke]
          rcases hcall with ⟨h1, h2⟩ | ⟨v, h1, h2⟩
          · intro K Q hK
            unfold Oper.wp
            rw [hrun, h1, Oper.upon_enter]
            refine h2.mono ?_
            rintro e w' ⟨v, rfl, hv, x, rfl⟩
            exact hK H _ v (Hp.le_refl H) (hw.ext x) (hg.ext x) (fun s e => by simp at e; subst e; exact hv H)
          · exact OK1.same (v := v) (by rw [hrun, h1]) hw hg (h2 H)
        · cases h
      · cases h
    · cases h
  | _ => rw [ho] at h; simp [opTy] at h
end
end Go.Proofs.Qxb6500680aGreatDoor
