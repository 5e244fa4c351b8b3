/- A part of the evaluator over abstract values, and that it is right (RvE). Conditions: none. -/
import Derived.Test.YtddaogebacigbaaGreatDoorRvD
set_option linter.constructorNameAsVariable false
namespace Go.Proofs.YtddaogebacigbaaGreatDoor.RV
open Go.RowKit (Below)

theorem pureRun_sound {α : Type} {P : Program} {w : World} : ∀ {s : Sem α} {a : α}, pureRun P s = some a → s.run P w = .ok a w := by
  intro s
  induction s with
  | pure b => intro a h; simp only [pureRun, Option.some.injEq] at h; subst h; rfl
  | program k ih => intro a h; simp only [pureRun] at h; exact ih _ h
  | _ => intro a h; simp [pureRun] at h

/-- An operation yields this, makes blocks at most. -/
def Yields' (_P : Program) (w : World) (O : Nat → Prop) (ι : Iota) (p : PV) (r : Result Next) : Prop :=
  ∃ x w', r = .ok (.value x) w' ∧ Grown w w' ∧ V w' O ι p x

section
variable {cfg : Cfg} {env : Env} {w : World} {O : Nat → Prop} {ι : Iota} {ρ : Operand → Value}

theorem Yields'.here {P : Program} {p : PV} {x : Value} {r : Result Next} (h : r = .ok (.value x) w) (hv : V w O ι p x) : Yields' P w O ι p r := ⟨x, w, h, .refl, hv⟩

theorem litOk_spec : ∀ {l : List Operand}, litOk cfg env l = true → ∀ x ∈ l, ∃ p v, evO cfg env x = some p ∧ toVal p = some v
  | [], _, x, hx => by cases hx
  | y :: l, h, x, hx => by
    unfold litOk at h
    split at h
    · rename_i p hp
      split at h
      · rename_i v hv
        rcases List.mem_cons.1 hx with rfl | hx
        · exact ⟨p, v, hp, hv⟩
        · exact litOk_spec h x hx
      · cases h
    · cases h

theorem litRun_sound {o : Oper} {p : PV} (hE : ∀ x q, evO cfg env x = some q → V w O ι q (ρ x)) (h : litRun cfg env o = some p) :
    Yields' cfg.P w O ι p ((execOp ρ o).run cfg.P w) := by
  unfold litRun at h
  split at h
  · cases h
  rename_i hsel
  split at h
  · rename_i hok
    have hρ : ∀ x ∈ o.op.operands, ρ x = litOf cfg env x := fun x hx => by
      obtain ⟨q, v, hq, hv⟩ := litOk_spec hok x (by simpa using hx)
      have := toVal_sound q (hE x q hq) hv
      simp [litOf, hq, hv, this]
    have hs : ∀ cs b, o.op ≠ .select cs b := fun cs b hc => by rw [hc] at hsel; simp [isSel] at hsel
    rw [execOp_congr o hs hρ]
    split at h <;> cases h
    rename_i v hv
    exact .here (pureRun_sound hv) (V.ofVal v)
  · cases h

/-! ### Types -/
theorem szO_spec {P : Program} {t : TypeId} {n : Nat} (h : szO P t = some n) : ∃ i, P.info? t = some i ∧ i.size = n := by
  unfold szO at h; split at h <;> cases h; rename_i i hi; exact ⟨i, hi, rfl⟩
theorem run_sizeOf {P : Program} {t : TypeId} {n : Nat} (h : szO P t = some n) (w : World) : (sizeOf t).run P w = .ok n w := by
  obtain ⟨i, hi, rfl⟩ := szO_spec h
  simp [sizeOf, typeInfo, hi]
theorem run_isAgg {P : Program} {t : TypeId} {b : Bool} (h : isAggO P t = some b) (w : World) : (isAgg t).run P w = .ok b w := by
  unfold isAggO at h
  unfold isAgg
  split at h <;> cases h <;> rename_i hu
  · rw [Sem.run_bind, run_underlying hu w]; rfl
  · rw [Sem.run_bind, run_underlying hu w]; rfl
  · rename_i d h1 h2
    rw [Sem.run_bind, run_underlying hu w]
    cases d <;> first | rfl | exact absurd rfl (h1 _) | exact absurd rfl (h2 _ _)
theorem zeroO_spec {P : Program} {t : TypeId} {z : PV} (h : zeroO P t = some z) : ∃ i v, P.info? t = some i ∧ i.zero = some v ∧ z = ofVal1 v ∧ ∀ w O ι, V w O ι z v := by
  unfold zeroO at h
  split at h
  · rename_i i hi
    split at h
    · rename_i v hv
      split at h <;> cases h
      exact ⟨i, v, hi, hv, rfl, fun w O ι => V.ofVal1 v⟩
    · cases h
  · cases h
theorem run_zeroValue {P : Program} {t : TypeId} {i : TypeInfo} {v : Value} (hi : P.info? t = some i) (hv : i.zero = some v) (w : World) : (zeroValue t).run P w = .ok v w := by
  simp [zeroValue, typeInfo, hi, hv]

/-! ### Lists -/
theorem evOs_sound (hE : ∀ x q, evO cfg env x = some q → V w O ι q (ρ x)) : ∀ {xs : List Operand} {ps : List PV}, evOs cfg env xs = some ps → VL w O ι ps (xs.map ρ)
  | [], ps, h => by simp only [evOs, Option.some.injEq] at h; subst h; simp [VL.nil_iff]
  | x :: xs, ps, h => by
    unfold evOs at h
    split at h
    · rename_i p hp
      split at h <;> cases h
      rename_i qs hqs
      simpa using VL.cons (hE x p hp) (evOs_sound hE hqs)
    · cases h

theorem list_foldl_set (off : Nat) : ∀ (vs : List Value) (k : Nat) (cells : Array Value), off + k + vs.length ≤ cells.size →
    ((vs.zipIdx k).foldl (fun cs (x : Value × Nat) => cs.setIfInBounds (off + x.2) x.1) cells).toList = cells.toList.take (off + k) ++ (vs ++ cells.toList.drop (off + k + vs.length))
  | [], k, cells, _ => by simp
  | v :: vs, k, cells, h => by
    simp only [List.zipIdx_cons, List.foldl_cons]
    have hk : off + k < cells.size := by simp at h; omega
    rw [list_foldl_set off vs (k + 1) _ (by simp at h ⊢; omega)]
    apply List.ext_getElem?
    intro i
    simp only [Array.toList_setIfInBounds, List.getElem?_append, List.length_take, List.length_set, Array.length_toList, List.getElem?_take, List.getElem?_set, List.length_cons, List.getElem?_drop]
    simp only [List.length_cons] at h
    have e1 : min (off + (k + 1)) cells.size = off + k + 1 := by omega
    have e2 : min (off + k) cells.size = off + k := by omega
    rw [e1, e2]
    by_cases h1 : i < off + k
    · rw [if_pos (by omega), if_pos (by omega), if_neg (by omega), if_pos h1, if_pos (by omega)]
    · by_cases h2 : i = off + k
      · subst h2
        rw [if_pos (by omega), if_pos (by omega), if_pos rfl, if_pos (by omega), if_neg (by omega), if_pos (by omega)]
        simp
      · rw [if_neg (by omega), if_neg h1]
        by_cases h3 : i - (off + k) < vs.length + 1
        · rw [if_pos (by omega), if_pos h3, show i - (off + k) = (i - (off + k + 1)) + 1 by omega, List.getElem?_cons_succ]
        · rw [if_neg (by omega), if_neg h3, if_neg (by omega)]
          congr 1
          omega

theorem splice_length {l xs : List PV} {off : Nat} (h : off + xs.length ≤ l.length) : (splice l off xs).length = l.length := by
  simp [splice]; omega
theorem VL.splice {l xs : List PV} {ys zs : List Value} (h : VL w O ι l ys) (hx : VL w O ι xs zs) (off : Nat) : VL w O ι (splice l off xs) (ys.take off ++ (zs ++ ys.drop (off + zs.length))) := by
  unfold RV.splice
  rw [hx.length]
  exact (h.take off).append (hx.append (h.drop _))

inductive PartsR (w : World) (O : Nat → Prop) (ι : Iota) : List (Nat × PV) → List (Nat × Value) → Prop
  | nil : PartsR w O ι [] []
  | cons {i : Nat} {p : PV} {x : Value} {ps : List (Nat × PV)} {xs : List (Nat × Value)} : V w O ι p x → PartsR w O ι ps xs → PartsR w O ι ((i, p) :: ps) ((i, x) :: xs)

theorem evParts_sound (hE : ∀ x q, evO cfg env x = some q → V w O ι q (ρ x)) : ∀ {xs : List (Nat × Operand)} {ps : List (Nat × PV)}, evParts cfg env xs = some ps → PartsR w O ι ps (xs.map fun (i, x) => (i, ρ x))
  | [], ps, h => by simp only [evParts, Option.some.injEq] at h; subst h; exact .nil
  | (i, x) :: xs, ps, h => by
    unfold evParts at h
    split at h
    · rename_i p hp
      split at h <;> cases h
      rename_i qs hqs
      exact .cons (hE x p hp) (evParts_sound hE hqs)
    · cases h

theorem fillA_sound {place : Nat → Option (Nat × Nat)} {ps : List (Nat × PV)} {xs : List (Nat × Value)} (hp : PartsR w O ι ps xs) : ∀ {cs cs' : List PV} {cells : Array Value},
    VL w O ι cs cells.toList → fillA place cs ps = some cs' → ∃ cells', Instr.fill place cells xs = some cells' ∧ VL w O ι cs' cells'.toList := by
  induction hp with
  | nil => intro cs cs' cells hl h; simp only [fillA, Option.some.injEq] at h; subst h; exact ⟨cells, rfl, hl⟩
  | @cons i p x ps xs hv _ ih =>
    intro cs cs' cells hl h
    unfold fillA at h
    unfold Instr.fill
    split at h
    · cases h
    rename_i off size hpl
    split at h
    · rename_i hc
      obtain ⟨h1, h2⟩ := hc
      have hxl : x.cells.size = size := by rw [← h1, ← hv.cells.length]; simp
      have hcl : cells.size = cs.length := by rw [← hl.length]; simp
      have hcell := hv.cells
      have hfold := list_foldl_set off x.cells.toList 0 cells (by simp; omega)
      have hz : (x.cells.zipIdx.foldl (fun cs (x : Value × Nat) => cs.setIfInBounds (off + x.2) x.1) cells).toList = cells.toList.take off ++ (x.cells.toList ++ cells.toList.drop (off + x.cells.toList.length)) := by
        rw [← Array.foldl_toList, Array.toList_zipIdx]
        simpa using hfold
      have hvl := VL.splice hl hcell off
      rw [← hz] at hvl
      obtain ⟨cells', hf, hr⟩ := ih hvl h
      refine ⟨cells', ?_, hr⟩
      simp only [hpl]
      rw [if_neg (by simp [hxl]; omega)]
      exact hf
    · cases h

theorem run_mapM_sizes {P : Program} (w : World) : ∀ (l : List Field), sizesOk P l = true →
    (l.mapM (fun f => do pure (f.offset, ← sizeOf f.type) : Field → Sem (Nat × Nat))).run P w = .ok (l.map fun f => (f.offset, (szO P f.type).getD 0)) w
  | [], _ => by simp
  | f :: l, h => by
    unfold sizesOk at h
    split at h
    · rename_i n hn
      have ih := run_mapM_sizes w l h
      simp only [bind_pure_comp] at ih
      simp [List.mapM_cons, run_sizeOf hn, ih, hn]
    · cases h

theorem sizesOk_get {P : Program} : ∀ {l : List Field}, sizesOk P l = true → ∀ f ∈ l, ∃ n, szO P f.type = some n
  | [], _, f, hf => by cases hf
  | g :: l, h, f, hf => by
    unfold sizesOk at h
    split at h
    · rename_i n hn
      rcases List.mem_cons.1 hf with rfl | hf
      · exact ⟨n, hn⟩
      · exact sizesOk_get h f hf
    · cases h

theorem buildA_sound {t : TypeId} {parts : Array (Nat × Operand)} {p : PV} (hE : ∀ x q, evO cfg env x = some q → V w O ι q (ρ x)) (h : buildA cfg env t parts.toList = some p) :
    ∃ x, (Instr.build t (parts.map fun (i, x) => (i, ρ x))).run cfg.P w = .ok x w ∧ V w O ι p x := by
  unfold buildA at h
  split at h
  · rename_i z fields ps hz hu hps
    split at h
    · rename_i hok
      obtain ⟨i, v, hi, hv, hzv, hV⟩ := zeroO_spec hz
      · obtain ⟨cs, hf, rfl⟩ := Option.map_eq_some_iff.1 h
        obtain ⟨cells', hfill, hl⟩ := fillA_sound (cells := v.cells) (evParts_sound hE hps) (hV w O ι).cells hf
        refine ⟨.agg cells', ?_, V.agg_iff.2 ⟨_, rfl, hl⟩⟩
        have hpl : placeS cfg.P fields = (fun i => ((fields.toList.map fun f => (f.offset, (szO cfg.P f.type).getD 0)).toArray)[i]?) := by
          funext i
          unfold placeS
          cases hfi : fields[i]? with
          | none => simp [hfi]
          | some f =>
            obtain ⟨n, hn⟩ := sizesOk_get hok f (by simpa using Array.mem_of_getElem? hfi)
            simp [hfi, hn]
        rw [hpl] at hfill
        have hm : (fields.mapM (fun f => do pure (f.offset, ← sizeOf f.type) : Field → Sem (Nat × Nat))).run cfg.P w = .ok (fields.toList.map fun f => (f.offset, (szO cfg.P f.type).getD 0)).toArray w := by
          rw [Array.mapM_eq_mapM_toList, Sem.run_map, run_mapM_sizes w _ hok]
          rfl
        unfold Instr.build
        rw [Sem.run_bind, run_zeroValue hi hv w, Result.andThen_ok, Sem.run_bind, run_underlying hu w, Result.andThen_ok]
        simp only [Sem.run_bind, hm, Result.andThen_ok, Array.toList_map, hfill, Sem.run_pure]
    · cases h
  · rename_i z n elem ps hz hu hps
    split at h
    · rename_i size hsz
      obtain ⟨i, v, hi, hv, hzv, hV⟩ := zeroO_spec hz
      · obtain ⟨cs, hf, rfl⟩ := Option.map_eq_some_iff.1 h
        obtain ⟨cells', hfill, hl⟩ := fillA_sound (cells := v.cells) (evParts_sound hE hps) (hV w O ι).cells hf
        refine ⟨.agg cells', ?_, V.agg_iff.2 ⟨_, rfl, hl⟩⟩
        unfold Instr.build
        rw [Sem.run_bind, run_zeroValue hi hv w, Result.andThen_ok, Sem.run_bind, run_underlying hu w, Result.andThen_ok]
        simp only [Sem.run_bind, run_sizeOf hsz, Result.andThen_ok, Array.toList_map, hfill, Sem.run_pure]
    · cases h
  · cases h
end
end Go.Proofs.YtddaogebacigbaaGreatDoor.RV
