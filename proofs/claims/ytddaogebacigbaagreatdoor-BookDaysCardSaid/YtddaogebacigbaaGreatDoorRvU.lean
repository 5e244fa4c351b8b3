/- A part of the evaluator over abstract values, and that it is right (RvU). Conditions: none. -/
import Derived.Test.YtddaogebacigbaaGreatDoorRvT
set_option linter.constructorNameAsVariable false
namespace Go.Proofs.YtddaogebacigbaaGreatDoor.RV

/-! ### Two operations in the other order -/
section
variable {cfg : Cfg} {env : Env} {H : Heap} {X : Run}

theorem obj_put {k : Nat} {e : Nat × HObj} (hk : H.get k = none) {id ver : Nat} {o : HObj} (h : obj H id ver = some o) : obj (H.put k e) id ver = some o := by
  have hg := obj_spec h
  unfold obj
  rw [put_get]
  have : id ≠ k := fun e => by rw [e, hk] at hg; cases hg
  rw [if_neg this, hg]
  simp

theorem mapOf_put {k : Nat} {e : Nat × HObj} (hk : H.get k = none) {m : PV} {r : List Value × List PV × List Nat × Nat} (h : mapOf H m = some r) : mapOf (H.put k e) m = some r := by
  unfold mapOf at h ⊢
  split at h
  · exact h
  · split at h
    · rename_i ho
      rw [obj_put hk ho]
      exact h
    · cases h
  · exact h
  · cases h

theorem loadA_put {P : Program} {k : Nat} {e : Nat × HObj} (hk : H.get k = none) {t : TypeId} {q p : PV} (h : loadA P H t q = some p) : loadA P (H.put k e) t q = some p := by
  unfold loadA at h ⊢
  split at h
  · split at h
    · rename_i ho
      rw [obj_put hk ho]
      exact h
    · cases h
  · exact h
  · cases h

theorem aopRead_put {k : Nat} {e : Nat × HObj} (hk : H.get k = none) {o : Oper} {p : PV} (h : aopRead cfg env H o = some p) : aopRead cfg env (H.put k e) o = some p := by
  obtain ⟨dst, op, ty, pos, after, guard⟩ := o
  cases op <;> simp only [aopRead] at h ⊢
  case load t x =>
    split at h
    · exact loadA_put hk h
    · cases h
  case convert src dst x =>
    split at h
    · split at h
      · split at h
        · rename_i ho
          rw [obj_put hk ho]
          exact h
        · cases h
      · split at h
        · rename_i ho
          rw [obj_put hk ho]
          exact h
        · cases h
      · exact h
      · exact h
      · cases h
    · cases h
  case entry it =>
    split at h
    · split at h
      · rename_i ho
        rw [obj_put hk ho]
        simp only
        split at h
        · rename_i hm
          rw [mapOf_put hk hm]
          simp only [*]
        · cases h
      · cases h
    · cases h
  case lookup t m kk ok =>
    split at h
    · split at h
      · split at h
        · rename_i hl
          have : ∀ {t m kv r}, lookupA cfg.P H t m kv = some r → lookupA cfg.P (H.put k e) t m kv = some r := by
            intro t m kv r hl
            unfold lookupA at hl ⊢
            split at hl
            · split at hl
              · rename_i hm
                rw [mapOf_put hk hm]
                exact hl
              · cases hl
            · cases hl
          rw [this hl]
          exact h
        · cases h
      · cases h
    · cases h
  case call c =>
    obtain ⟨callee, args, argTypes⟩ := c
    cases callee <;> simp only at h ⊢ <;> try cases h
    rename_i b
    cases b <;> simp only at h ⊢ <;> try cases h
    split at h
    · split at h
      · exact h
      · exact h
      · split at h
        · rename_i ho
          rw [obj_put hk ho]
          exact h
        · cases h
      · cases h
    · cases h
  all_goals cases h

theorem elemsOf_put {k : Nat} {e : Nat × HObj} (hk : H.get k = none) {s : Nat} {q : PV} {l : List PV} (h : elemsOf H s q = some l) : elemsOf (H.put k e) s q = some l := by
  unfold elemsOf at h ⊢
  split at h
  · split at h
    · rename_i ho
      rw [obj_put hk ho]
      exact h
    · cases h
  · exact h
  · exact h
  · exact h
  · cases h

theorem aopWrite_put {k : Nat} {e : Nat × HObj} (hk : H.get k = none) {o : Oper} {fr : Nat} {r : PV × Delta} (h : aopWrite cfg env H o fr = some r) : aopWrite cfg env (H.put k e) o fr = some r := by
  obtain ⟨dst, op, ty, pos, after, guard⟩ := o
  cases op <;> simp only [aopWrite] at h ⊢
  case store t a x =>
    split at h
    · have : ∀ {q v d}, storeA cfg.P H t q v = some d → storeA cfg.P (H.put k e) t q v = some d := by
        intro q v d hs
        unfold storeA at hs ⊢
        split at hs
        · split at hs
          · rename_i ho hn
            rw [obj_put hk ho, hn]
            exact hs
          · cases hs
        · cases hs
      split at h
      · rename_i hs
        rw [this hs]
        exact h
      · cases h
    · cases h
  case mapUpdate t m kk x =>
    have : ∀ {m kv v d}, updateA cfg.P H t m kv v = some d → updateA cfg.P (H.put k e) t m kv v = some d := by
      intro m kv v d hs
      unfold updateA at hs ⊢
      split at hs
      · split at hs
        · split at hs
          · rename_i ho
            rw [obj_put hk ho]
            exact hs
          · cases hs
        · cases hs
      · cases hs
    split at h
    · split at h
      · split at h
        · rename_i hs
          rw [this hs]
          exact h
        · cases h
      · cases h
    · cases h
  case insert t m kk x =>
    have : ∀ {m kv v d}, updateA cfg.P H t m kv v = some d → updateA cfg.P (H.put k e) t m kv v = some d := by
      intro m kv v d hs
      unfold updateA at hs ⊢
      split at hs
      · split at hs
        · split at hs
          · rename_i ho
            rw [obj_put hk ho]
            exact hs
          · cases hs
        · cases hs
      · cases hs
    split at h
    · split at h
      · split at h
        · rename_i hs
          rw [this hs]
          exact h
        · cases h
      · cases h
    · cases h
  case next it b =>
    split at h
    · split at h
      · rename_i ho
        rw [obj_put hk ho]
        exact h
      · cases h
    · split at h
      · rename_i ho
        rw [obj_put hk ho]
        simp only
        split at h
        · rename_i hm
          rw [mapOf_put hk hm]
          exact h
        · cases h
      · cases h
    · cases h
  case range t x =>
    split at h
    · split at h
      · rename_i hm
        rw [mapOf_put hk hm]
        exact h
      · cases h
    · cases h
  case call c =>
    obtain ⟨callee, args, argTypes⟩ := c
    cases callee <;> simp only at h ⊢ <;> try cases h
    rename_i b
    cases b <;> simp only at h ⊢ <;> try cases h
    · have : ∀ {el fr d x r}, appendA cfg.P H el fr d x = some r → appendA cfg.P (H.put k e) el fr d x = some r := by
        intro el fr d x r hs
        unfold appendA at hs ⊢
        split at hs
        · split at hs
          · rename_i he
            rw [elemsOf_put hk he]
            simp only
            split at hs
            · rename_i hc
              rw [if_pos hc]
              split at hs
              · exact hs
              · split at hs
                · rename_i ho
                  rw [obj_put hk ho]
                  exact hs
                · cases hs
              · exact hs
              · cases hs
            · cases hs
          · cases hs
        · cases hs
      split at h
      · split at h
        · exact this h
        · exact this h
        · cases h
      · cases h
    · have : ∀ {el d x r}, copyA cfg.P H el d x = some r → copyA cfg.P (H.put k e) el d x = some r := by
        intro el d x r hs
        unfold copyA at hs ⊢
        split at hs
        · split at hs
          · rename_i he
            rw [elemsOf_put hk he]
            simp only
            split at hs
            · rename_i ho
              rw [obj_put hk ho]
              exact hs
            · cases hs
          · rename_i he
            rw [elemsOf_put hk he]
            exact hs
          · rename_i he
            rw [elemsOf_put hk he]
            exact hs
          · cases hs
        · cases hs
      split at h
      · split at h
        · exact this h
        · cases h
      · cases h
  all_goals cases h

theorem put_comm {α : Type} (t : Tr α) {k q : Nat} {x y : α} (h : k ≠ q) : (t.put k x).put q y = (t.put q y).put k x := by
  rw [Tr.put_eq, Tr.put_eq, Tr.put_eq, Tr.put_eq]
  exact Tr.set_comm (depth k) (depth q) t k q x y (depth_ok k) (depth_ok q) h

theorem applyD_cons {H : Heap} {id ver : Nat} {o : HObj} {d : Delta} : applyD H ((id, ver, o) :: d) = applyD (H.put id (ver, o)) d := by
  unfold applyD
  rw [List.foldl_cons]

theorem applyD_none {k : Nat} (d : Delta) : ∀ H : Heap, (applyD H d).get k = none → H.get k = none ∧ ∀ e ∈ d, e.1 ≠ k := by
  induction d with
  | nil => exact fun H h => ⟨h, fun e he => by cases he⟩
  | cons y d ih =>
    obtain ⟨id, ver, o⟩ := y
    intro H h
    rw [applyD_cons] at h
    obtain ⟨h1, h2⟩ := ih _ h
    rw [put_get] at h1
    have hne : ¬ (k = id) := fun hh => by rw [if_pos hh] at h1; cases h1
    rw [if_neg hne] at h1
    refine ⟨h1, fun e he => ?_⟩
    rcases List.mem_cons.1 he with rfl | he
    · intro e
      have e : id = k := e
      exact hne e.symm
    · exact h2 e he

theorem applyD_put {k : Nat} {x : Nat × HObj} (d : Delta) : ∀ H : Heap, (∀ e ∈ d, e.1 ≠ k) → applyD (H.put k x) d = (applyD H d).put k x := by
  induction d with
  | nil => exact fun H _ => by unfold applyD; rw [List.foldl_nil, List.foldl_nil]
  | cons y d ih =>
    obtain ⟨id, ver, o⟩ := y
    intro H h
    have h0 : id ≠ k := h (id, ver, o) (by simp)
    rw [applyD_cons, applyD_cons, put_comm _ (Ne.symm h0), ih _ (fun e he => h e (by simp [he]))]
end
end Go.Proofs.YtddaogebacigbaaGreatDoor.RV
