/- A part of the evaluator over abstract values, and that it is right (RvK). Conditions: none. -/
import Derived.Test.YtddaogebacigbaaGreatDoorRvJ
set_option linter.constructorNameAsVariable false
namespace Go.Proofs.YtddaogebacigbaaGreatDoor.RV
open Go.RowKit (Below)

theorem V.oneCell {w : World} {O : Nat → Prop} {ι : Iota} {p : PV} {x : Value} (h : V w O ι p x) (hs : p.scalar = true) : x.oneCell' = true := by
  cases p with
  | lit v =>
    obtain rfl := V.lit_iff.1 h
    cases x <;> first | rfl | simp [PV.scalar] at hs
  | agg l => simp [PV.scalar] at hs
  | tup l => simp [PV.scalar] at hs
  | _ => simp only [V] at h; first
    | (obtain ⟨_, _, _, _, rfl, _⟩ := h; rfl)
    | (obtain ⟨_, _, rfl, _⟩ := h; rfl)
    | (obtain ⟨_, _, rfl⟩ := h; rfl)
    | (obtain ⟨_, _, _, rfl, _⟩ := h; rfl)
    | (obtain ⟨_, rfl, _⟩ := h; rfl)

theorem scalars_one {w : World} {O : Nat → Prop} {ι : Iota} : ∀ {l : List PV} {xs : List Value}, VL w O ι l xs → scalars l = true → ∀ v ∈ xs, v.oneCell' = true
  | [], xs, h, _, v, hv => by rw [VL.nil_iff] at h; subst h; cases hv
  | p :: ps, xs, h, hs, v, hv => by
    obtain ⟨y, ys, rfl, hy, hys⟩ := VL.cons_iff.1 h
    simp only [scalars, Bool.and_eq_true] at hs
    rcases List.mem_cons.1 hv with rfl | hv
    · exact hy.oneCell hs.1
    · exact scalars_one hys hs.2 v hv

theorem run_storeCells_fz (P : Program) (g o ce : Nat) (t : TypeId) (fz : Nat × Nat) (hfz : ∀ j, fz.1 ≤ j → j < fz.2 → ce ≤ j) : ∀ (vs : List Value) (i : Nat) (cur : Array Value) (w : World), w.heap[g]? = some (.cells cur t fz) → o + i + vs.length ≤ ce → ce ≤ cur.size → (∀ v ∈ vs, v.oneCell' = true) →
    (storeCells ⟨g, o, none⟩ vs i).run P w = .ok () (w.setRow g (cur.toList.take (o + i) ++ vs ++ cur.toList.drop (o + i + vs.length)).toArray)
  | [], i, cur, w, hg, _, _, _ => by
    simp only [storeCells, List.append_nil, List.length_nil, Nat.add_zero, List.take_append_drop, Array.toArray_toList]
    rw [setRow_self w g cur t fz hg]
    rfl
  | v :: rest, i, cur, w, hg, hl, hce, h1 => by
    have hi : o + i < cur.size := by simp at hl; omega
    have hadd : (⟨g, o, none⟩ : Addr).add i = ⟨g, o + i, none⟩ := by unfold Addr.add; split <;> simp_all
    have hcell : w.cell? ⟨g, o + i, none⟩ = some cur[o + i] := by simp [World.cell?, hg, hi]
    have hfro : w.frozen? ⟨g, o + i, none⟩ = false := by
      simp only [World.frozen?, hg]
      simp only [Bool.and_eq_false_iff, decide_eq_false_iff_not]
      by_cases hh : fz.1 ≤ o + i
      · right
        intro h2
        have := hfz _ hh h2
        simp at hl
        omega
      · exact .inl hh
    have hst : (store ((⟨g, o, none⟩ : Addr).add i) v).run P w = .ok () (w.setRow g (cur.setIfInBounds (o + i) v)) := by
      rw [hadd, run_store P w _ v _ (h1 v (by simp)), hcell]
      simp [hfro, setCell_eq_setRow w g (o + i) cur t fz v hg]
    have ih := run_storeCells_fz P g o ce t fz hfz rest (i + 1) (cur.setIfInBounds (o + i) v) (w.setRow g (cur.setIfInBounds (o + i) v)) (setRow_heap w g cur _ t _ hg) (by simp at hl ⊢; omega) (by simpa using hce) (fun x hx => h1 x (by simp [hx]))
    simp only [storeCells, Sem.run_bind, hst, Result.andThen_ok, ih, setRow_setRow]
    congr 3
    have e := list_seg_step cur.toList (o + i) v rest (by simp at hl ⊢; omega)
    simpa [Array.toList_setIfInBounds, Nat.add_assoc] using e

section
variable {cfg : Cfg} {O0 : Nat → Prop} {ι : Iota} {H : Heap} {w : World} {env : Env} {ρ : Operand → Value} {O : Nat → Prop}

/-- What a new block of the call's own is. -/
theorem aopNew_sound {o : Oper} {p : PV} {ob : HObj} {id : Nat} (hE : ∀ x q, evO cfg env x = some q → V w O ι q (ρ x)) (h : aopNew cfg env o id = some (p, ob)) :
    ∃ x w' L, (execOp ρ o).run cfg.P w = .ok (.value x) w' ∧ Grown w w' ∧ L.b = w.heap.size ∧ ob.live = true ∧ ∀ O' ι', Ext w O ι w' O' ι' → ι' id 0 = some L → V w' O' ι' p x ∧ ObjR w' O' ι' L ob := by
  obtain ⟨dst, op, ty, pos, after, guard⟩ := o
  cases op
  case alloc t =>
    simp only [aopNew] at h
    split at h <;> cases h
    rename_i z hz
    obtain ⟨i, v, hi, hv, _, hV⟩ := zeroO_spec hz
    have hlen : v.cells.size = z.cells.length := by rw [← (hV w O ι).cells.length]; simp
    refine ⟨.pointer (some ⟨w.heap.size, 0, none⟩), w.alloc (.cells v.cells t), ⟨w.heap.size, 0, v.cells.size, z.cells.length⟩, ?_, .alloc w _, rfl, rfl, fun O' ι' he hL => ⟨V.ptr_iff.2 ⟨_, hL, by simp⟩, ?_⟩⟩
    · exact run_v (s := Instr.alloc t true (.tuple #[])) (by simp [Instr.alloc, run_zeroValue hi hv, newVar, newRow])
    · exact ⟨rfl, ⟨_, _, _, heap_alloc_new w _, Nat.le_refl _, fun i h1 h2 => by simp at h2⟩, by simp [hlen], VE.cons_iff.2 ⟨⟨v, hV _ _ _, hlen, _, _, _, heap_alloc_new w _, fun i y hy => by rw [Nat.zero_add]; simpa using hy⟩, VE.nil⟩, fun h => by cases h⟩
  case box t x =>
    simp only [aopNew] at h
    split at h <;> cases h
    rename_i q hq
    have hv := hE x q hq
    have hlen : (ρ x).cells.size = q.cells.length := by rw [← hv.cells.length]; simp
    refine ⟨.pointer (some ⟨w.heap.size, 0, none⟩), w.alloc (.cells (ρ x).cells t), ⟨w.heap.size, 0, (ρ x).cells.size, q.cells.length⟩, rfl, .alloc w _, rfl, rfl, fun O' ι' he hL => ⟨V.ptr_iff.2 ⟨_, hL, by simp⟩, ?_⟩⟩
    exact ⟨rfl, ⟨_, _, _, heap_alloc_new w _, Nat.le_refl _, fun i h1 h2 => by simp at h2⟩, by simp [hlen], VE.cons_iff.2 ⟨⟨ρ x, V.mono he _ _ hv, hlen, _, _, _, heap_alloc_new w _, fun i y hy => by rw [Nat.zero_add]; simpa using hy⟩, VE.nil⟩, fun h => by cases h⟩
  case buildSlice t len parts =>
    simp only [aopNew] at h
    split at h <;> cases h
    rename_i s l hs
    obtain ⟨cells, elem, hr, hl, hc, hrow⟩ := buildSliceA_sound (w := w) (O := O) (ι := ι) hE hs
    refine ⟨_, _, ⟨w.heap.size, 0, cells.size, s⟩, run_v hr, .alloc w _, rfl, rfl, fun O' ι' he hL => ⟨V.own_iff.2 ⟨_, len, hL, rfl, by simp, by simpa using hc, Nat.le_refl _, by simp⟩, ?_⟩⟩
    exact ⟨rfl, ⟨_, _, _, heap_alloc_new w _, Nat.le_refl _, fun i h1 h2 => by simp at h2⟩, by rw [hl]; simpa using hc, hrow.ve he (heap_alloc_new w _), fun h => by cases h⟩
  case makeSlice t l c =>
    simp only [aopNew] at h
    split at h <;> cases h
    rename_i s l hs
    obtain ⟨cells, elem, hr, hc, hrow⟩ := makeSliceA_sound (w := w) (O := O) (ι := ι) (ρ := ρ) hE hs
    refine ⟨_, _, ⟨w.heap.size, 0, cells.size, s⟩, run_v hr, .alloc w _, rfl, rfl, fun O' ι' he hL => ⟨V.own_iff.2 ⟨_, l.length, hL, rfl, by simp, by simpa using hc, Nat.le_refl _, by simp⟩, ?_⟩⟩
    exact ⟨rfl, ⟨_, _, _, heap_alloc_new w _, Nat.le_refl _, fun i h1 h2 => by simp at h2⟩, by simpa using hc, (hrow ι).ve he (heap_alloc_new w _), fun h => by cases h⟩
  case makeMap t r =>
    simp only [aopNew] at h
    split at h
    · rename_i hmt
      have hu : ∃ a b, cfg.P.underlying t = some (.map a b) := by
        unfold isMapT at hmt
        split at hmt
        · rename_i a b hab; exact ⟨a, b, hab⟩
        · cases hmt
      obtain ⟨a, b, hu⟩ := hu
      have fin : (Instr.makeMap t (r.map ρ)).run cfg.P w = .ok (.map (some w.heap.size)) (w.alloc (.map #[] 0)) →
          ∃ x w' L, (execOp ρ { dst, op := .makeMap t r, type := ty, pos, after, guard }).run cfg.P w = .ok (.value x) w' ∧ Grown w w' ∧ L.b = w.heap.size ∧ (HObj.mp [] [] [] 0).live = true ∧ ∀ O' ι', Ext w O ι w' O' ι' → ι' id 0 = some L → V w' O' ι' (.map id 0) x ∧ ObjR w' O' ι' L (.mp [] [] [] 0) := fun hr => by
        refine ⟨_, _, ⟨w.heap.size, 0, 0, 0⟩, run_v hr, .alloc w _, rfl, rfl, fun O' ι' he hL => ⟨?_, #[], heap_alloc_new w _, rfl, rfl, VL.nil_iff.2 rfl⟩⟩
        simp only [V]
        exact ⟨_, hL, rfl⟩
      split at h
      · cases h
        exact fin (by simp [Instr.makeMap, newObj, Sem.run])
      · rename_i x
        split at h <;> cases h
        rename_i k n hk
        have hx := V.lit_iff.1 (hE x _ hk)
        exact fin (by simp [Instr.makeMap, newObj, Sem.run, hx, run_underlying hu, asInt, asIntOf])
    · cases h
  case range t x =>
    simp only [aopNew] at h
    split at h <;> cases h
    rename_i s hu hs
    have hx := V.lit_iff.1 (hE x _ hs)
    refine ⟨.pointer (some ⟨w.heap.size, 0, none⟩), w.alloc (.stringIter s 0), ⟨w.heap.size, 0, 0, 0⟩, run_v (s := Instr.range t (ρ x)) ?_, .alloc w _, rfl, rfl, fun O' ι' he hL => ⟨?_, heap_alloc_new w _⟩⟩
    · simp [Instr.range, run_underlying hu, hx, newObj, Sem.run]
    · simp only [V]
      exact ⟨_, hL, rfl⟩
  all_goals (simp only [aopNew] at h; cases h)

theorem Inv.new {k : Nat} {ob : HObj} {L : Loc} {w' : World} {p : PV} {x : Value} (hI : Inv cfg O0 ι H w) (hn : H.get k = none) (hg : Grown w w') (hb : w.heap.size ≤ L.b)
    (hR : ∀ O' ι', Ext w (Owns O0 ι H) ι w' O' ι' → (∀ b, O' b → Owns O0 ι H b ∨ b = L.b) → ι' k 0 = some L → V w' O' ι' p x ∧ ObjR w' O' ι' L ob) :
    Inv cfg O0 (upd ι k 0 L) (H.put k (0, ob)) w' ∧ Step ι H w (upd ι k 0 L) (H.put k (0, ob)) w' ∧ V w' (Owns O0 (upd ι k 0 L) (H.put k (0, ob))) (upd ι k 0 L) p x := by
  have hnew : upd ι k 0 L k 0 = some L := by simp [upd]
  have hι : ∀ v L', ι k v = some L' → False := fun v L' h => by
    obtain ⟨ver, o, h1, _⟩ := hI.fresh _ _ _ h
    rw [hn] at h1
    cases h1
  have hO : ∀ b, Owns O0 (upd ι k 0 L) (H.put k (0, ob)) b → Owns O0 ι H b ∨ b = L.b := by
    rintro b (hb | ⟨id, ver, o, L', h1, h2, h3, h4⟩)
    · exact .inl (.inl hb)
    · rw [put_get] at h1
      split at h1
      · rename_i e
        subst e
        cases h1
        rw [hnew] at h3
        cases h3
        exact .inr h4.symm
      · rename_i e
        have : upd ι k 0 L id ver = ι id ver := by simp [upd, e]
        rw [this] at h3
        exact .inl (.inr ⟨id, ver, o, L', h1, h2, h3, h4⟩)
  have := Inv.set (L' := L) (o' := ob) (ver' := 0) hI rfl (fun ver o h => by rw [hn] at h; cases h) (fun L' h => (hι _ _ h).elim) hg.os hg.tape hg.output hg.size
    (fun b hlt hne => hg.block b hlt) (.inl hb) (fun he => (hR _ _ he hO hnew).2)
  exact ⟨this.1, this.2, (hR _ _ this.2.ext hO hnew).1⟩
end
end Go.Proofs.YtddaogebacigbaaGreatDoor.RV
