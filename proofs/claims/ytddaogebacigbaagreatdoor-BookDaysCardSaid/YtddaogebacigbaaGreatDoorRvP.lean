/- A part of the evaluator over abstract values, and that it is right (RvP). Conditions: none. -/
import Derived.Test.YtddaogebacigbaaGreatDoorRvO
set_option linter.constructorNameAsVariable false
namespace Go.Proofs.YtddaogebacigbaaGreatDoor.RV
open Go.RowKit (Below)

inductive ZR (w : World) (O : Nat → Prop) (ι : Iota) : List (Value × PV × Nat) → List MapEntry → Prop
  | nil : ZR w O ι [] []
  | cons {v : PV} {e : MapEntry} {zs : List (Value × PV × Nat)} {es : List MapEntry} : V w O ι v e.val → ZR w O ι zs es → ZR w O ι ((e.key, v, e.born) :: zs) (e :: es)

section
variable {cfg : Cfg} {O0 : Nat → Prop} {ι : Iota} {H : Heap} {w : World} {env : Env} {ρ : Operand → Value} {O : Nat → Prop}

theorem ZR.of : ∀ {ents : List MapEntry} {ks : List Value} {vs : List PV} {bs : List Nat}, ks = ents.map (·.key) → bs = ents.map (·.born) → VL w O ι vs (ents.map (·.val)) → ZR w O ι (ks.zip (vs.zip bs)) ents
  | [], ks, vs, bs, hk, hb, hv => by subst hk hb; simp; exact .nil
  | e :: ents, ks, vs, bs, hk, hb, hv => by
    subst hk hb
    simp only [List.map_cons] at hv
    cases vs with
    | nil =>
      rw [VL.nil_iff] at hv
      cases hv
    | cons v vs =>
      obtain ⟨y, ys, he, hy, hys⟩ := VL.cons_iff.1 hv
      cases he
      simp only [List.map_cons, List.zip_cons_cons]
      exact .cons hy (ZR.of rfl rfl hys)

theorem ZR.filter (f : Nat → Bool) {zs : List (Value × PV × Nat)} {es : List MapEntry} (h : ZR w O ι zs es) : ZR w O ι (zs.filter fun e => f e.2.2) (es.filter fun e => f e.born) := by
  induction h with
  | nil => exact .nil
  | @cons v e zs es hv _ ih =>
    simp only [List.filter_cons]
    split
    · exact .cons hv ih
    · exact ih

theorem ZR.nil_inv {es : List MapEntry} (h : ZR w O ι [] es) : es = [] := by cases h; rfl
theorem ZR.one_inv {k : Value} {v : PV} {b : Nat} {es : List MapEntry} (h : ZR w O ι [(k, v, b)] es) : ∃ e, es = [e] ∧ e.key = k ∧ e.born = b ∧ V w O ι v e.val := by
  cases h with
  | cons hv hr => cases hr; exact ⟨_, rfl, rfl, rfl, hv⟩

/-- An operation is done with. -/
def Does (r : Result Next) (x : Value) (w' : World) : Prop := r = .ok (.value x) w' ∨ (r = .ok .skip w' ∧ x = undef)

theorem does_u {P : Program} {s : Sem Unit} {w' : World} (h : s.run P w = .ok () w') : Does ((do s; pure .skip : Sem Next).run P w) undef w' := .inr ⟨by simp [h], rfl⟩

theorem nextMap_run {P : Program} {r m : Nat} {ents : Array MapEntry} {clock since stepped : Nat} {seen : List Nat} {ty : TypeId} (hr : w.heap[r]? = some (.mapIter (some m) since seen.toArray stepped)) (hm : w.heap[m]? = some (.map ents clock))
    (hgo : (!seen.isEmpty && !ents.toList.isEmpty && ents.toList.all (fun e => decide (e.born ≥ stepped))) = false) :
    let left := ents.toList.filter fun e => !seen.contains e.born
    let old := left.filter fun e => decide (e.born < since)
    let new := left.filter fun e => decide (e.born ≥ since)
    (old = [] → new = [] → (Instr.next (.pointer (some ⟨r, 0, none⟩)) false ty).run P w = .ok (.tuple #[.bool false]) w) ∧
    (∀ e, old = [e] → new = [] → (Instr.next (.pointer (some ⟨r, 0, none⟩)) false ty).run P w = .ok (.tuple #[.bool true, e.key, e.val]) { w with heap := w.heap.setIfInBounds r (.mapIter (some m) since (seen ++ [e.born]).toArray clock) }) := by
  intro left old new
  have hgo' : (!seen.toArray.isEmpty && !ents.isEmpty && ents.all (fun e => decide (e.born ≥ stepped))) = false := by
    rw [← hgo]
    cases ents with | mk l => simp
  have hold : (((ents.filter fun e => !seen.toArray.contains e.born)).filter fun e => decide (e.born < since)) = old.toArray := by
    apply Array.ext'
    simp [old, left]
  have hnew : (((ents.filter fun e => !seen.toArray.contains e.born)).filter fun e => decide (e.born ≥ since)) = new.toArray := by
    apply Array.ext'
    simp [new, left]
  have base : ∀ (x : Result Value), ((do match ((if old.toArray.isEmpty then #[none] else #[]) ++ (old.toArray ++ new.toArray).map some)[← choose (.mapNext ((if old.toArray.isEmpty then #[none] else #[]) ++ (old.toArray ++ new.toArray).map some).size)]? with
      | some (some e) =>
        setObj r (.mapIter (some m) since (seen.toArray.push e.born) clock)
        pure (.tuple #[.bool true, e.key, e.val])
      | some none => pure (.tuple #[.bool false])
      | none => stuck "Next: no such candidate" : Sem Value)).run P w = x → (Instr.next (.pointer (some ⟨r, 0, none⟩)) false ty).run P w = x := by
    intro x hx
    rw [← hx]
    unfold Instr.next
    simp only [getObj, Sem.run_bind, Sem.run, hr, Result.andThen_ok, hm, hgo', Bool.false_eq_true, if_false]
    rw [hold, hnew]
    rfl
  refine ⟨fun h1 h2 => base _ ?_, fun e h1 h2 => base _ ?_⟩
  · rw [h1, h2]
    simp [choose, Sem.run, Question.forced]
  · rw [h1, h2]
    simp [choose, Sem.run, Question.forced, setObj, hr]

theorem aopWrite_sound {o : Oper} {p : PV} {d : Delta} {fresh : Nat} (hI : Inv cfg O0 ι H w) (hn : H.get fresh = none) (hE : ∀ x q, evO cfg env x = some q → V w (Owns O0 ι H) ι q (ρ x))
    (h : aopWrite cfg env H o fresh = some (p, d)) : ∃ x w', Does ((execOp ρ o).run cfg.P w) x w' ∧ Wrote cfg O0 ι H w p d x w' := by
  obtain ⟨dst, op, ty, pos, after, guard⟩ := o
  cases op
  case store t a x =>
    simp only [aopWrite] at h
    split at h
    · rename_i q v hq hv
      split at h <;> cases h
      rename_i dl hs
      obtain ⟨w', hr, hw⟩ := storeA_sound hI (hE a _ hq) (hE x _ hv) hs
      exact ⟨_, w', does_u hr, hw⟩
    · cases h
  case call c =>
    simp only [aopWrite] at h
    obtain ⟨callee, args, argTypes⟩ := c
    cases callee
    case value f => cases h
    case invoke r m => cases h
    case builtin b =>
      cases b
      case append =>
        simp only at h
        split at h
        · rename_i dd x dt xt hargs htys
          have hargs' : args = #[dd, x] := by simpa using congrArg List.toArray hargs
          have htys' : argTypes = #[dt, xt] := by simpa using congrArg List.toArray htys
          subst hargs' htys'
          have fin : ∀ {e : TypeId} {q q' : PV}, cfg.P.underlying dt = some (.slice e) → notInt cfg.P xt → evO cfg env dd = some q → evO cfg env x = some q' → appendA cfg.P H e fresh q q' = some (p, d) →
              ∃ y w', Does ((execOp ρ ⟨dst, .call ⟨.builtin .append, #[dd, x], #[dt, xt]⟩, ty, pos, after, guard⟩).run cfg.P w) y w' ∧ Wrote cfg O0 ι H w p d y w' := by
            intro e q q' h1 h2 h3 h4 h5
            obtain ⟨y, w', hr, hw⟩ := appendA_sound (ty := ty) hI hn h1 h2 (hE dd _ h3) (hE x _ h4) h5
            exact ⟨y, w', .inl (by simp [execOp, resolve, invoke, builtin, hr]), hw⟩
          split at h
          · rename_i e e' q q' h1 h2 h3 h4
            exact fin h1 (.inl ⟨e', h2⟩) h3 h4 h
          · rename_i e q q' h1 h2 h3 h4
            exact fin h1 (.inr h2) h3 h4 h
          · cases h
        · cases h
      case copy =>
        simp only at h
        split at h
        · rename_i dd x dt xt hargs htys
          have hargs' : args = #[dd, x] := by simpa using congrArg List.toArray hargs
          have htys' : argTypes = #[dt, xt] := by simpa using congrArg List.toArray htys
          subst hargs' htys'
          split at h
          · rename_i e q q' h1 h3 h4
            obtain ⟨y, w', hr, hw⟩ := copyA_sound (xt := xt) (ty := ty) hI h1 (hE dd _ h3) (hE x _ h4) h
            exact ⟨y, w', .inl (by simp [execOp, resolve, invoke, builtin, hr]), hw⟩
          · cases h
        · cases h
      all_goals cases h
  case mapUpdate t m k x =>
    simp only [aopWrite] at h
    split at h
    · rename_i q qk qv hq hqk hqv
      split at h
      · rename_i kv hkv
        split at h <;> cases h
        rename_i dl hu
        obtain rfl := toVal_sound qk (hE k _ hqk) hkv
        obtain ⟨w', hr, hw⟩ := updateA_sound hI (hE m _ hq) (hE x _ hqv) hu
        exact ⟨_, w', does_u hr, hw⟩
      · cases h
    · cases h
  case insert t m k x =>
    simp only [aopWrite] at h
    split at h
    · rename_i q qk qv hq hqk hqv
      split at h
      · rename_i kv hkv
        split at h <;> cases h
        rename_i dl hu
        obtain rfl := toVal_sound qk (hE k _ hqk) hkv
        obtain ⟨w', hr, hw⟩ := updateA_sound hI (hE m _ hq) (hE x _ hqv) hu
        exact ⟨_, w', does_u hr, hw⟩
      · cases h
    · cases h
  case next it isString =>
    simp only [aopWrite] at h
    split at h
    · rename_i id ver hit
      split at h
      · rename_i s pos' ho
        have hgk := obj_spec ho
        have hx := hE it _ hit
        simp only [V] at hx
        obtain ⟨L, hL, hxx⟩ := hx
        obtain ⟨L', hL', hb⟩ := hI.obj _ _ _ hgk
        rw [hL] at hL'
        cases hL'
        have hb : w.heap[L.b]? = some (.stringIter s pos') := hb
        split at h
        · rename_i hlt
          cases h
          refine ⟨.tuple #[.bool true, goInt pos', .int .i32 (Utf8.decode s pos').1], { w with heap := w.heap.setIfInBounds L.b (.stringIter s (pos' + (Utf8.decode s pos').2)) }, .inl (run_v (s := Instr.next (ρ it) true ty) ?_), ?_⟩
          · rw [hxx]
            simp [Instr.next, getObj, setObj, Sem.run, hb, hlt]
          · have := hI.putObj (b := .stringIter s (pos' + (Utf8.decode s pos').2)) (o' := .str s (pos' + (Utf8.decode s pos').2)) hgk rfl hL rfl (fun O' ι' he hb' => hb')
            exact ⟨ι, this.1, this.2, V.tup_iff.2 ⟨_, rfl, VL.cons (V.lit_iff.2 rfl) (VL.cons (V.lit_iff.2 rfl) (VL.cons (V.lit_iff.2 rfl) (VL.nil_iff.2 rfl)))⟩⟩
        · rename_i hlt
          cases h
          refine ⟨.tuple #[.bool false], w, .inl (run_v (s := Instr.next (ρ it) true ty) ?_), wrote_none hI (V.tup_iff.2 ⟨_, rfl, VL.cons (V.lit_iff.2 rfl) (VL.nil_iff.2 rfl)⟩)⟩
          rw [hxx]
          simp [Instr.next, getObj, Sem.run, hb, hlt]
      · cases h
    · rename_i id ver hit
      split at h
      · rename_i m since seen stepped ho
        have hgk := obj_spec ho
        have hx := hE it _ hit
        simp only [V] at hx
        obtain ⟨L, hL, hxx⟩ := hx
        obtain ⟨L', hL', mr, hb, hmr⟩ := hI.obj _ _ _ hgk
        rw [hL] at hL'
        cases hL'
        split at h
        · rename_i ks vs bs clock hm
          have hM := mapOf_sound hI hmr hm
          rcases hM with ⟨hmn, rfl, rfl, rfl, rfl⟩ | ⟨mb, ents, hmn, hme, hks, hbs, hvl⟩
          · cases hmn
            have hnx : nextOf [] [] [] since seen stepped = some none := by simp [nextOf]
            rw [hnx] at h
            simp only at h
            cases h
            refine ⟨.tuple #[.bool false], w, .inl (run_v (s := Instr.next (ρ it) false ty) ?_), wrote_none hI (V.tup_iff.2 ⟨_, rfl, VL.cons (V.lit_iff.2 rfl) (VL.nil_iff.2 rfl)⟩)⟩
            rw [hxx]
            simp [Instr.next, getObj, Sem.run, hb]
          · cases hmn
            have hZ := ZR.of hks hbs hvl
            cases hnx : nextOf ks vs bs since seen stepped with
            | none => rw [hnx] at h; simp at h
            | some r =>
              rw [hnx] at h
              unfold nextOf at hnx
              split at hnx
              · cases hnx
              rename_i hgo
              have hgo' : (!seen.isEmpty && !ents.toList.isEmpty && ents.toList.all (fun e => decide (e.born ≥ stepped))) = false := by
                have : (!seen.isEmpty && !bs.isEmpty && bs.all (fun b => decide (b ≥ stepped))) = false := by simpa using hgo
                rw [hbs] at this
                rw [← this]
                simp [List.all_map, Function.comp_def]
              have hrun := nextMap_run (P := cfg.P) (ty := ty) hb hme hgo'
              have hleft := hZ.filter (fun b => !seen.contains b)
              have hold := hleft.filter (fun b => decide (b < since))
              have hnew := hleft.filter (fun b => decide (b ≥ since))
              simp only at hnx hrun
              split at hnx <;> cases hnx
              · rename_i h1 h2
                simp only at h
                cases h
                rw [h1] at hold
                rw [h2] at hnew
                refine ⟨.tuple #[.bool false], w, .inl (run_v (s := Instr.next (ρ it) false ty) ?_), wrote_none hI (V.tup_iff.2 ⟨_, rfl, VL.cons (V.lit_iff.2 rfl) (VL.nil_iff.2 rfl)⟩)⟩
                rw [hxx]
                exact hrun.1 hold.nil_inv hnew.nil_inv
              · rename_i e h1 h2
                obtain ⟨k, v, b⟩ := e
                simp only at h
                cases h
                rw [h1] at hold
                rw [h2] at hnew
                obtain ⟨e, he, rfl, rfl, hev⟩ := hold.one_inv
                refine ⟨_, _, .inl (run_v (s := Instr.next (ρ it) false ty) (by rw [hxx]; exact hrun.2 e he hnew.nil_inv)), ?_⟩
                have := hI.putObj (b := .mapIter (some mb) since (seen ++ [e.born]).toArray clock) (o' := .mit m since (seen ++ [e.born]) clock) hgk rfl hL rfl (fun O' ι' hext hb' => ⟨some mb, hb', V.mono hext _ _ hmr⟩)
                exact ⟨ι, this.1, this.2, V.tup_iff.2 ⟨_, rfl, VL.cons (V.lit_iff.2 rfl) (VL.cons (V.ofVal1 _) (VL.cons (V.mono this.2.ext _ _ hev) (VL.nil_iff.2 rfl)))⟩⟩
        · cases h
      · cases h
    · cases h
  case range t x =>
    simp only [aopWrite] at h
    split at h
    · rename_i q hmt hq
      split at h <;> cases h
      rename_i ks vs bs clock hm
      have hu : ∃ a b, cfg.P.underlying t = some (.map a b) := by
        unfold isMapT at hmt
        split at hmt
        · rename_i a b hab; exact ⟨a, b, hab⟩
        · cases hmt
      obtain ⟨a, b, hu⟩ := hu
      have hV := hE x _ hq
      have hM := mapOf_sound hI hV hm
      have fin : ∀ mr, ρ x = .map mr → (Instr.range t (ρ x)).run cfg.P w = .ok (.pointer (some ⟨w.heap.size, 0, none⟩)) (w.alloc (.mapIter mr clock #[] clock)) →
          ∃ y w', Does ((execOp ρ ⟨dst, .range t x, ty, pos, after, guard⟩).run cfg.P w) y w' ∧ Wrote cfg O0 ι H w (.iter fresh 0) [(fresh, 0, .mit q clock [] clock)] y w' := by
        intro mr hmr hr
        refine ⟨_, _, .inl (run_v hr), ?_⟩
        have := Inv.new (L := ⟨w.heap.size, 0, 0, 0⟩) (ob := .mit q clock [] clock) (p := .iter fresh 0) (x := .pointer (some ⟨w.heap.size, 0, none⟩)) hI hn (Grown.alloc w (.mapIter mr clock #[] clock)) (Nat.le_refl _)
          (fun O' ι' he _ hL => ⟨by simp only [V]; exact ⟨_, hL, rfl⟩, mr, heap_alloc_new w _, by have := V.mono he _ _ hV; rwa [hmr] at this⟩)
        exact ⟨_, this.1, this.2.1, this.2.2⟩
      rcases hM with ⟨hmn, rfl, rfl, rfl, rfl⟩ | ⟨mb, ents, hmn, hme, _⟩
      · exact fin none hmn (by rw [hmn]; simp [Instr.range, run_underlying hu, newObj, Sem.run])
      · exact fin (some mb) hmn (by rw [hmn]; simp [Instr.range, run_underlying hu, newObj, getObj, Sem.run, hme])
    · cases h
  all_goals (simp only [aopWrite] at h; cases h)
end
end Go.Proofs.YtddaogebacigbaaGreatDoor.RV
