/- A part of the evaluator over abstract values, and that it is right (RvH). Conditions: none. -/
import Derived.Test.YtddaogebacigbaaGreatDoorRvG
set_option linter.constructorNameAsVariable false
namespace Go.Proofs.YtddaogebacigbaaGreatDoor.RV
open Go.RowKit (Below)

theorem run_stringToBytes (P : Program) (e : TypeId) (s : ByteArray) (w : World) :
    ∃ cap w', (Conv.stringToBytes e s).run P w = .ok (.slice (some ⟨w.heap.size, 0, none⟩) s.size cap) w' ∧ s.size ≤ cap ∧ Grown w w' ∧
      ∃ cs fz, w'.heap[w.heap.size]? = some (.cells cs e fz) ∧ cs.size = cap ∧ (∀ i, fz.1 ≤ i → i < fz.2 → cap ≤ i) ∧ ∀ (i : Nat) (b : UInt8), s.data.toList[i]? = some b → cs[i]? = some (Value.int .u8 b.toNat) := by
  generalize hcap : (Question.appendCap s.size 0 e).cut (w.tape w.drawn (.appendCap s.size 0 e)) = cap
  have hle : s.size ≤ cap := by rw [← hcap]; simp [Question.cut]
  generalize hcs : (s.data.map (fun b => Value.int .u8 b.toNat) ++ Array.replicate (cap - s.size) (.int .u8 0) : Array Value) = cs
  have hsz : cs.size = cap := by
    rw [← hcs]
    simp
    have : s.data.size = s.size := rfl
    omega
  let w1 : World := { w with drawn := w.drawn + 1 }
  let w2 : World := w1.alloc (.cells cs e)
  let w3 : World := w2.freeze ⟨w.heap.size, cap, none⟩ 1
  have h2 : w2.heap[w.heap.size]? = some (.cells cs e (0, 0)) := heap_alloc_new w1 _
  have h3 : w3.heap[w.heap.size]? = some (.cells cs e (cap, cap + 1)) := by
    simp only [w3, World.freeze]
    simp [Array.getElem?_modify, h2]
  refine ⟨cap, w3, ?_, hle, ⟨rfl, rfl, rfl, ?_, ?_⟩, cs, (cap, cap + 1), h3, hsz, fun i h1 _ => h1, ?_⟩
  · have hf : (Question.appendCap s.size 0 e).forced = false := rfl
    simp only [Conv.stringToBytes, choose, Sem.run_bind, Sem.run, hf, Bool.false_eq_true, if_false, hcap, Result.andThen_ok, newRow, newObj, hcs, markStringish, shape, Sem.run_pure]
    have hsh : World.shape? { w with drawn := w.drawn + 1, heap := w.heap.push (.cells cs e) } w.heap.size = some (e, cap) := by
      simp [World.shape?, hsz]
    simp only [hsh, freeze, Sem.run, Result.andThen_ok]
    rfl
  · simp only [w3, World.freeze]
    simp
    exact Nat.le_of_lt (by show w.heap.size < (w.heap.push _).size; simp)
  · intro b hb
    simp only [w3, World.freeze]
    have hne : ¬ w.heap.size = b := by omega
    simp [Array.getElem?_modify, hne]
    exact heap_alloc_old w1 _ b hb
  · intro i b hb
    rw [← hcs]
    have hi : i < s.data.size := by have := (List.getElem?_eq_some_iff.1 hb).1; simpa using this
    rw [Array.getElem?_append_left (by simpa using hi)]
    have : s.data[i]? = some b := by simpa using hb
    simp [this]

section
variable {cfg : Cfg} {env : Env} {w : World} {O : Nat → Prop} {ι : Iota} {ρ : Operand → Value}

theorem run_eq_nil1 {P : Program} {t e : TypeId} (hu : P.underlying t = some (.slice e)) (w : World) (d : Nat) (a : Addr) (n c n' c' : Nat) : (Op.equalIn (d + 1) t (.slice (some a) n c) (.slice none n' c')).run P w = .ok false w := by
  simp [Op.equalIn, run_underlying hu]
theorem run_eq_nil2 {P : Program} {t e : TypeId} (hu : P.underlying t = some (.slice e)) (w : World) (d : Nat) (a : Addr) (n c n' c' : Nat) : (Op.equalIn (d + 1) t (.slice none n' c') (.slice (some a) n c)).run P w = .ok false w := by
  simp [Op.equalIn, run_underlying hu]

theorem nilCmp_sound {op : BinOp} {t : TypeId} {x y : Operand} {p : PV} (hE : ∀ x q, evO cfg env x = some q → V w O ι q (ρ x)) (h : nilCmp cfg env op t x y = some p) :
    ∃ v, (do eqGuard op t x y (ρ x) (ρ y); binOp op t (ρ x) (ρ y)).run cfg.P w = .ok v w ∧ V w O ι p v := by
  unfold nilCmp at h
  split at h
  · rename_i q r hst hx hy
    split at h
    · rename_i hc
      have hnn : ∀ {q : PV} {v : Value}, V w O ι q v → notNil q = true → ∃ a n c, v = .slice (some a) n c := by
        intro q v hv hn
        cases q with
        | own id ver s off len cap => obtain ⟨L, c, _, _, hv, _⟩ := V.own_iff.1 hv; exact ⟨_, _, _, hv⟩
        | dsl s l cap =>
          cases l with
          | nil => simp [notNil] at hn
          | cons a l =>
            obtain ⟨ad, c, hv, _, _, hr⟩ := V.dsl_iff.1 hv
            rcases hr with hr | ⟨b, o, rfl, _⟩
            · cases hr
            · exact ⟨_, _, _, hv⟩
        | _ => simp [notNil] at hn
      have hnl : ∀ {q : PV} {v : Value}, V w O ι q v → isNilS q = true → ∃ n c, v = .slice none n c := by
        intro q v hv hn
        unfold isNilS at hn
        split at hn
        · exact ⟨_, _, V.lit_iff.1 hv⟩
        · cases hn
      have hu : ∃ e, cfg.P.underlying t = some (.slice e) := by
        unfold isSliceT at hst
        split at hst
        · rename_i e he; exact ⟨e, he⟩
        · cases hst
      obtain ⟨e, hu⟩ := hu
      simp only [Bool.or_eq_true, Bool.and_eq_true] at hc
      have hrun : (eqGuard op t x y (ρ x) (ρ y)).run cfg.P w = .ok () w ∧ (Op.equal t (ρ x) (ρ y)).run cfg.P w = .ok false w ∧ (∀ k a k' b, ¬ (ρ x = .int k a ∧ ρ y = .int k' b)) ∧ ∃ a b : Option Addr × Nat × Nat, ρ x = .slice a.1 a.2.1 a.2.2 ∧ ρ y = .slice b.1 b.2.1 b.2.2 := by
        rcases hc with ⟨h1, h2⟩ | ⟨h1, h2⟩
        · obtain ⟨a, n, c, hv⟩ := hnn (hE x _ hx) h1
          obtain ⟨n', c', hv'⟩ := hnl (hE y _ hy) h2
          rw [hv, hv']
          refine ⟨?_, ?_, by simp, (some a, n, c), (none, n', c'), rfl, rfl⟩
          · simp only [eqGuard]; split <;> rfl
          · exact run_eq_nil1 hu w 9999 a n c n' c'
        · obtain ⟨a, n, c, hv⟩ := hnn (hE y _ hy) h2
          obtain ⟨n', c', hv'⟩ := hnl (hE x _ hx) h1
          rw [hv, hv']
          refine ⟨?_, ?_, by simp, (none, n', c'), (some a, n, c), rfl, rfl⟩
          · simp only [eqGuard]; split <;> rfl
          · exact run_eq_nil2 hu w 9999 a n c n' c'
      obtain ⟨hg, heq, _, a, b, hva, hvb⟩ := hrun
      split at h <;> cases h
      · refine ⟨.bool false, ?_, V.lit_iff.2 rfl⟩
        simp only [Sem.run_bind, hg, Result.andThen_ok]
        rw [hva, hvb] at heq ⊢
        simp [binOp, heq]
      · refine ⟨.bool true, ?_, V.lit_iff.2 rfl⟩
        simp only [Sem.run_bind, hg, Result.andThen_ok]
        rw [hva, hvb] at heq ⊢
        simp [binOp, heq]
    · cases h
  · cases h

theorem isSliceT_spec {P : Program} {t : TypeId} (h : isSliceT P t = true) : ∃ e, P.underlying t = some (.slice e) := by
  unfold isSliceT at h
  split at h
  · rename_i e he; exact ⟨e, he⟩
  · cases h

theorem run_v {P : Program} {s : Sem Value} {x : Value} {w w' : World} (h : s.run P w = .ok x w') : (do pure (.value (← s)) : Sem Next).run P w = .ok (.value x) w' := by
  simp [h]

theorem load_at {P : Program} {O : Nat → Prop} {t : TypeId} {b o off : Nat} {l : List PV} {ys : List Value} {p : PV} (hc : CellsAt w b o ys) (hl : VL w O ι l ys) (h : partO P t l off = some p) :
    ∃ x, (loadVar t ⟨b, o + off, none⟩).run P w = .ok x w ∧ V w O ι p x := by
  obtain ⟨cs, et, fz, hb, hget⟩ := hc
  have cell : ∀ j y, ys[off + j]? = some y → w.cell? ((⟨b, o + off, none⟩ : Addr).add j) = some y := fun j y hy => by
    rw [Addr.add_mid, cell_of_row w b _ cs et fz hb, Nat.add_assoc]
    exact hget _ _ hy
  unfold partO at h
  split at h
  · rename_i n ha hn
    split at h <;> cases h
    rename_i hle
    have hlen : ((ys.drop off).take n).length = n := by have := hl.length; simp; omega
    have hr := run_loadCells_list (P := P) w ⟨b, o + off, none⟩ ((ys.drop off).take n) (fun j v hv => by
      rw [List.getElem?_take] at hv
      split at hv
      · rw [List.getElem?_drop] at hv; exact cell j v hv
      · cases hv)
    rw [hlen] at hr
    refine ⟨.agg ((ys.drop off).take n).toArray, by simp [loadVar, run_isAgg ha, run_sizeOf hn, hr], V.agg_iff.2 ⟨_, rfl, ?_⟩⟩
    simpa using (hl.drop off).take n
  · rename_i n ha hn
    obtain ⟨x, hx, hv⟩ := hl.get _ _ h
    have := cell 0 x (by simpa using hx)
    simp only [Addr.add_mid, Nat.add_zero] at this
    exact ⟨x, by simp [loadVar, run_isAgg ha, this], hv⟩
  · cases h

theorem aopPure_sound {o : Oper} {p : PV} (hO : ∀ b, O b → b < w.heap.size) (hE : ∀ x q, evO cfg env x = some q → V w O ι q (ρ x)) (h : aopPure cfg env o = some p) :
    Yields' cfg.P w O ι p ((execOp ρ o).run cfg.P w) := by
  have hlit := fun h => litRun_sound (o := o) (p := p) hE h
  obtain ⟨dst, op, ty, pos, after, guard⟩ := o
  cases op
  case move x => simp only [aopPure] at h; exact .here rfl (hE x p h)
  case assign x => simp only [aopPure] at h; exact .here rfl (hE x p h)
  case pick c a b =>
    simp only [aopPure] at h
    split at h
    · rename_i t ht
      split at h
      · rename_i q r hq hr
        have hc := V.lit_iff.1 (hE c _ ht)
        cases h
        cases t
        · exact .here (x := ρ b) (by simp [execOp, hc, asBool]) (hE b _ hr)
        · exact .here (x := ρ a) (by simp [execOp, hc, asBool]) (hE a _ hq)
      · cases h
    · cases h
  case box t x =>
    simp only [aopPure] at h
    split at h
    · rename_i q hq
      split at h <;> cases h
      rename_i hd
      have hv := hE x q hq
      have hg := Grown.alloc w (.cells (ρ x).cells t)
      refine ⟨.pointer (some ⟨w.heap.size, 0, none⟩), w.alloc (.cells (ρ x).cells t), rfl, hg, V.dptr_iff.2 ⟨w.heap.size, 0, (ρ x).cells.toList, rfl, fun hh => absurd (hO _ hh) (by omega), ?_, ?_⟩⟩
      · exact ⟨_, _, _, heap_alloc_new w _, fun i y hy => by rw [Nat.zero_add]; simpa using hy⟩
      · exact VL.mono (hg.ext (ι := iota0)) _ _ (deepB_sound q hv hd).cells
    · cases h
  case build t parts =>
    simp only [aopPure] at h
    obtain ⟨x, hr, hv⟩ := buildA_sound hE h
    exact .here (run_v hr) hv
  case buildSlice t len parts =>
    simp only [aopPure] at h
    split at h
    · rename_i s l hs
      split at h <;> cases h
      rename_i hd
      obtain ⟨cells, elem, hr, hl, hc, hrow⟩ := buildSliceA_sound (w := w) (O := O) (ι := ι) hE hs
      have hg := Grown.alloc w (.cells cells elem)
      refine ⟨_, _, run_v hr, hg, V.dsl_iff.2 ⟨_, _, by rw [hl], by omega, by simp, ?_⟩⟩
      refine .inr ⟨_, _, rfl, fun hh => absurd (hO _ hh) (by omega), RowR.ve (ι := iota0) (w := w) (O := O) ?_ hg.ext (heap_alloc_new w _)⟩
      intro m q hq
      obtain ⟨y, hy, r⟩ := hrow m q hq
      refine ⟨y, deepB_sound q hy ?_, r⟩
      have : ∀ (l : List PV), deepL l = true → ∀ q ∈ l, deepB q = true := by
        intro l
        induction l with
        | nil => intro _ q h; cases h
        | cons a l ih =>
          intro h q hq
          simp only [deepL, Bool.and_eq_true] at h
          rcases List.mem_cons.1 hq with rfl | hq
          · exact h.1
          · exact ih h.2 q hq
      exact this l hd q (List.mem_of_getElem? hq)
    · cases h
  case makeSlice t l c =>
    simp only [aopPure] at h
    split at h <;> cases h
    rename_i s l hs
    obtain ⟨cells, elem, hr, hc, hrow⟩ := makeSliceA_sound (w := w) (O := O) (ι := ι) (ρ := ρ) hE hs
    have hg := Grown.alloc w (.cells cells elem)
    refine ⟨_, _, run_v hr, hg, V.dsl_iff.2 ⟨_, _, rfl, by omega, by simp, ?_⟩⟩
    exact .inr ⟨_, _, rfl, fun hh => absurd (hO _ hh) (by omega), RowR.ve (ι := iota0) (w := w) (O := O) (hrow iota0) hg.ext (heap_alloc_new w _)⟩
  case field t x i =>
    simp only [aopPure] at h
    split at h <;> cases h
    rename_i q hq
    obtain ⟨y, hr, hv⟩ := fieldA_sound hE hq
    exact .here (run_v hr) hv
  case extract t i =>
    simp only [aopPure] at h
    split at h
    · rename_i l hl
      obtain ⟨xs, hx, hvl⟩ := V.tup_iff.1 (hE t _ hl)
      obtain ⟨y, hy, hv⟩ := hvl.get _ _ h
      refine .here (x := y) ?_ hv
      have hy' : xs[i]? = some y := by simpa using hy
      simp [execOp, hx, Instr.extract, hy']
    · cases h
  case fieldAddr t x i =>
    simp only [aopPure] at h
    obtain ⟨y, hr, hv⟩ := fieldAddrA_sound hE h
    exact .here (run_v hr) hv
  case indexAddr t x i =>
    simp only [aopPure] at h
    obtain ⟨y, hr, hv⟩ := indexAddrA_sound hE h
    exact .here (run_v hr) hv
  case slice t x lo hi mx =>
    simp only [aopPure] at h
    split at h
    · cases h
      rename_i hs
      obtain ⟨y, hr, hv⟩ := sliceA_sound hE hs
      exact .here (run_v hr) hv
    · exact hlit h
  case makeFunc fn first captured =>
    simp only [aopPure] at h
    split at h
    · rename_i f a l ha hl
      cases h
      refine .here (x := .func (.func f) (first.map ρ) (captured.map ρ)) rfl (V.clo_iff.2 ⟨_, _, rfl, ?_, ?_⟩)
      · simpa using evOs_sound hE ha
      · simpa using evOs_sound hE hl
    · cases h
  case nilCheck x =>
    simp only [aopPure] at h
    split at h
    · rename_i id ver idx off hx
      cases h
      have hv := hE x _ hx
      obtain ⟨L, _, hxx⟩ := V.ptr_iff.1 hv
      exact .here (x := ρ x) (by simp only [execOp, hxx]; rfl) hv
    · rename_i l off hx
      cases h
      have hv := hE x _ hx
      obtain ⟨b, o, ys, hxx, _⟩ := V.dptr_iff.1 hv
      exact .here (x := ρ x) (by simp only [execOp, hxx]; rfl) hv
    · rename_i f a l hx
      cases h
      have hv := hE x _ hx
      obtain ⟨ys, xs, hxx, _⟩ := V.clo_iff.1 hv
      exact .here (x := ρ x) (by simp only [execOp, hxx]; rfl) hv
    · cases h
  case convert src dst x =>
    simp only [aopPure] at h
    split at h
    · split at h
      · rename_i e s h1 h2 h3
        split at h <;> cases h
        rename_i he
        have hx := V.lit_iff.1 (hE x _ h3)
        obtain ⟨cap, w', hr, hle, hg, cs, fz, hb, hcs, hfz, hget⟩ := run_stringToBytes cfg.P e s w
        refine ⟨.slice (some ⟨w.heap.size, 0, none⟩) s.size cap, w', run_v (s := convert src dst (ρ x)) ?_, hg, V.dsl_iff.2 ⟨some ⟨w.heap.size, 0, none⟩, cap, ?_, ?_, ?_, ?_⟩⟩
        · simp only [convert, Sem.run_bind, run_underlying h1, run_underlying h2, Result.andThen_ok, hx, run_underlying he]
          exact hr
        · simp [bytesP]
        · simp only [bytesP, List.length_map, Array.length_toList]; exact hle
        · intro k hk; cases hk
        · refine .inr ⟨_, _, rfl, fun hh => absurd (hO _ hh) (by omega), VE.of_get fun i q hq => ?_⟩
          simp only [bytesP, List.getElem?_map, Option.map_eq_some_iff] at hq
          obtain ⟨b, hb', rfl⟩ := hq
          refine ⟨.int .u8 b.toNat, V.lit_iff.2 rfl, rfl, cs, e, fz, hb, fun j y hy => ?_⟩
          have : j = 0 := by have := (List.getElem?_eq_some_iff.1 hy).1; simpa [Value.cells] using this
          subst this
          simp [Value.cells] at hy
          rw [← hy]
          simpa using hget i b hb'
      · cases h
    · exact hlit h
  case binOp op t x y yt =>
    simp only [aopPure] at h
    split at h
    · cases h
      rename_i hl
      exact hlit hl
    · obtain ⟨v, hr, hv⟩ := nilCmp_sound hE h
      exact .here (run_v hr) hv
  case call c =>
    simp only [aopPure] at h
    obtain ⟨callee, args, argTypes⟩ := c
    cases callee
    case value f => cases h
    case invoke r m => cases h
    case builtin b =>
      cases b
      case len =>
        simp only at h
        split at h
        · rename_i x hargs
          have hargs' : args = #[x] := by simpa using congrArg List.toArray hargs
          subst hargs'
          split at h
          · rename_i id ver s off len cap t hx ht
            split at h <;> cases h
            rename_i hst
            obtain ⟨e, hu⟩ := isSliceT_spec hst
            obtain ⟨L, c, _, _, hxx, _⟩ := V.own_iff.1 (hE x _ hx)
            exact .here (x := .int .i64 len) (by simp [execOp, resolve, invoke, builtin, Builtin.len_, ht, run_underlying hu, hxx, goInt]) (V.lit_iff.2 rfl)
          · rename_i s l cap t hx ht
            split at h <;> cases h
            rename_i hst
            obtain ⟨e, hu⟩ := isSliceT_spec hst
            obtain ⟨a, c, hxx, _⟩ := V.dsl_iff.1 (hE x _ hx)
            exact .here (x := .int .i64 l.length) (by simp [execOp, resolve, invoke, builtin, Builtin.len_, ht, run_underlying hu, hxx, goInt]) (V.lit_iff.2 rfl)
          · exact hlit h
          · cases h
        · cases h
      case cap =>
        simp only at h
        split at h
        · rename_i x hargs
          have hargs' : args = #[x] := by simpa using congrArg List.toArray hargs
          subst hargs'
          split at h
          · rename_i id ver s off len k t hx ht
            split at h <;> cases h
            rename_i hst
            obtain ⟨e, hu⟩ := isSliceT_spec hst
            obtain ⟨L, c, _, _, hxx, _, _, hk⟩ := V.own_iff.1 (hE x _ hx)
            obtain rfl := hk k rfl
            exact .here (x := .int .i64 c) (by simp [execOp, resolve, invoke, builtin, Builtin.cap_, ht, run_underlying hu, hxx, goInt]) (V.lit_iff.2 rfl)
          · rename_i s l k t hx ht
            split at h <;> cases h
            rename_i hst
            obtain ⟨e, hu⟩ := isSliceT_spec hst
            obtain ⟨a, c, hxx, _, hk, _⟩ := V.dsl_iff.1 (hE x _ hx)
            obtain rfl := hk k rfl
            exact .here (x := .int .i64 c) (by simp [execOp, resolve, invoke, builtin, Builtin.cap_, ht, run_underlying hu, hxx, goInt]) (V.lit_iff.2 rfl)
          · exact hlit h
          · cases h
        · cases h
      case min => exact hlit h
      case max => exact hlit h
      all_goals cases h
  case alloc t => cases h
  case load t x =>
    simp only [aopPure] at h
    split at h
    · rename_i l off hx
      obtain ⟨b, o, ys, hxx, _, hc, hl⟩ := V.dptr_iff.1 (hE x _ hx)
      obtain ⟨z, hz, hv⟩ := load_at hc hl h
      refine .here (run_v (s := Instr.loadAt t (ρ x)) ?_) hv.lift
      rw [hxx]
      simp [Instr.loadAt, Instr.sureAddr, hz]
    · cases h
  case store t a x => cases h
  all_goals exact hlit h
end
end Go.Proofs.YtddaogebacigbaaGreatDoor.RV
