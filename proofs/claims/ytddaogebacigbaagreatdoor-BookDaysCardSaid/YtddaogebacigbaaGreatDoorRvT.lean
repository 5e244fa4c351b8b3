/- A part of the evaluator over abstract values, and that it is right (RvT). Conditions: none. -/
import Derived.Test.YtddaogebacigbaaGreatDoorRvS
set_option linter.constructorNameAsVariable false
namespace Go.Proofs.YtddaogebacigbaaGreatDoor.RV

/-! ### Another memory, another frame: what an operation does not look at -/

section
variable {cfg : Cfg} {env env' : Env}

theorem evOs_congr : ∀ {xs : List Operand}, (∀ x ∈ xs, evO cfg env' x = evO cfg env x) → evOs cfg env' xs = evOs cfg env xs
  | [], _ => rfl
  | x :: xs, h => by
    unfold evOs
    rw [h x (by simp), evOs_congr (fun y hy => h y (by simp [hy]))]
theorem evParts_congr : ∀ {xs : List (Nat × Operand)}, (∀ x ∈ xs, evO cfg env' x.2 = evO cfg env x.2) → evParts cfg env' xs = evParts cfg env xs
  | [], _ => rfl
  | (i, x) :: xs, h => by
    unfold evParts
    rw [h (i, x) (by simp), evParts_congr (fun y hy => h y (by simp [hy]))]
theorem litOk_congr : ∀ {xs : List Operand}, (∀ x ∈ xs, evO cfg env' x = evO cfg env x) → litOk cfg env' xs = litOk cfg env xs
  | [], _ => rfl
  | x :: xs, h => by
    unfold litOk
    rw [h x (by simp), litOk_congr (fun y hy => h y (by simp [hy]))]
theorem litRun_congr {o : Oper} (h : ∀ x ∈ o.op.operands, evO cfg env' x = evO cfg env x) : litRun cfg env' o = litRun cfg env o := by
  unfold litRun
  split
  · rfl
  rename_i hs
  rw [litOk_congr (fun x hx => h x (by simpa using hx)), execOp_congr (ρ := litOf cfg env') (ρ' := litOf cfg env) o (fun cs b hc => by rw [hc] at hs; simp [isSel] at hs) (fun x hx => by unfold litOf; rw [h x hx])]
theorem optNat_congr {x : Option Operand} (h : ∀ y, x = some y → evO cfg env' y = evO cfg env y) : optNat cfg env' x = optNat cfg env x := by
  cases x with
  | none => rfl
  | some y => unfold optNat; simp only [h y rfl]

theorem aopPure_congr {o : Oper} (h : ∀ x ∈ o.op.operands, evO cfg env' x = evO cfg env x) : aopPure cfg env' o = aopPure cfg env o := by
  have hl := litRun_congr h
  obtain ⟨dst, op, ty, pos, after, guard⟩ := o
  cases op <;> simp only [Op.operands] at h <;> simp only [aopPure, hl]
  case move x => exact h x (by simp)
  case assign x => exact h x (by simp)
  case pick c a b => rw [h c (by simp), h a (by simp), h b (by simp)]
  case box t x => rw [h x (by simp)]
  case load t x => rw [h x (by simp)]
  case build t parts =>
    unfold buildA
    rw [evParts_congr (fun y hy => h y.2 (by simp; exact ⟨y.1, by simpa using hy⟩))]
  case buildSlice t n parts =>
    unfold buildSliceA
    rw [evParts_congr (fun y hy => h y.2 (by simp; exact ⟨y.1, by simpa using hy⟩))]
  case makeSlice t l c => unfold makeSliceA; rw [h l (by simp), h c (by simp)]
  case field t x i => unfold fieldA; rw [h x (by simp)]
  case extract t i => rw [h t (by simp)]
  case fieldAddr t x i => unfold fieldAddrA; rw [h x (by simp)]
  case indexAddr t x i => unfold indexAddrA; rw [h x (by simp), h i (by simp)]
  case slice t x lo hi mx =>
    unfold sliceA
    rw [h x (by simp), optNat_congr (fun y hy => h y (by simp [hy])), optNat_congr (fun y hy => h y (by simp [hy])), optNat_congr (fun y hy => h y (by simp [hy]))]
  case makeFunc fn first captured => rw [evOs_congr (fun y hy => h y (by simp at hy ⊢; exact .inl hy)), evOs_congr (fun y hy => h y (by simp at hy ⊢; exact .inr hy))]
  case nilCheck x => rw [h x (by simp)]
  case convert src dst x => rw [h x (by simp)]
  case binOp op t x y yt => unfold nilCmp; rw [h x (by simp), h y (by simp)]
  case call c =>
    obtain ⟨callee, args, argTypes⟩ := c
    simp only [Call.operands] at h
    cases callee
    case value f => rfl
    case invoke r m => rfl
    case builtin b =>
      cases b <;> simp only <;> (try rfl)
      all_goals
        split
        · rename_i x hx
          have hx' : args = #[x] := by simpa using congrArg List.toArray hx
          rw [h x (by simp [hx'])]
        · rfl

theorem callee_operands {op : Op} {g : FuncId} {xs : List Operand} (h : callee? op = some (g, xs)) : ∀ x ∈ xs, x ∈ op.operands := by
  cases op <;> simp only [callee?] at h <;> try cases h
  rename_i c
  obtain ⟨callee, args, argTypes⟩ := c
  cases callee <;> simp only at h <;> try cases h
  rename_i f
  cases f <;> simp only at h <;> cases h
  intro x hx
  simp [Op.operands, Call.operands]
  exact .inr (by simpa using hx)

theorem effPure_congr {X : Run} {o : Oper} (h : ∀ x ∈ o.op.operands, evO cfg env' x = evO cfg env x) : effPure cfg X env' o = effPure cfg X env o := by
  unfold effPure
  split
  · rename_i g xs hc
    rw [evOs_congr (fun x hx => h x (callee_operands hc x hx))]
  · exact aopPure_congr h

theorem newOf_congr {X : Run} {o : Oper} {id : Nat} (h : ∀ x ∈ o.op.operands, evO cfg env' x = evO cfg env x) : newOf cfg X env' o id = newOf cfg X env o id := by
  unfold newOf
  split
  · rename_i g xs hc
    rw [evOs_congr (fun x hx => h x (callee_operands hc x hx))]
  · rename_i hc
    clear hc
    obtain ⟨dst, op, ty, pos, after, guard⟩ := o
    cases op <;> simp only [Op.operands] at h <;> simp only [aopNew]
    case box t x => rw [h x (by simp)]
    case buildSlice t n parts =>
      unfold buildSliceA
      rw [evParts_congr (fun y hy => h y.2 (by simp; exact ⟨y.1, by simpa using hy⟩))]
    case makeSlice t l c => unfold makeSliceA; rw [h l (by simp), h c (by simp)]
    case makeMap t r =>
      cases r with
      | none => rfl
      | some x => simp only [h x (by simp)]
    case range t x => rw [h x (by simp)]

theorem effRead_congr {X : Run} {H : Heap} {o : Oper} (h : ∀ x ∈ o.op.operands, evO cfg env' x = evO cfg env x) : effRead cfg X env' H o = effRead cfg X env H o := by
  unfold effRead
  split
  · rename_i g xs hc
    rw [evOs_congr (fun x hx => h x (callee_operands hc x hx))]
  · rename_i hc
    clear hc
    obtain ⟨dst, op, ty, pos, after, guard⟩ := o
    cases op <;> simp only [Op.operands] at h <;> simp only [aopRead]
    case load t x => rw [h x (by simp)]
    case convert src dst x => rw [h x (by simp)]
    case entry it => rw [h it (by simp)]
    case lookup t m k ok => rw [h m (by simp), h k (by simp)]
    case call c =>
      obtain ⟨callee, args, argTypes⟩ := c
      simp only [Call.operands] at h
      cases callee <;> simp only
      rename_i b
      cases b <;> simp only
      split
      · rename_i x t hx ht
        have hx' : args = #[x] := by simpa using congrArg List.toArray hx
        rw [h x (by simp [hx'])]
      · rfl

theorem effWrite_congr {H : Heap} {o : Oper} {fr : Nat} (h : ∀ x ∈ o.op.operands, evO cfg env' x = evO cfg env x) : effWrite cfg env' H o fr = effWrite cfg env H o fr := by
  unfold effWrite
  have : aopWrite cfg env' H o fr = aopWrite cfg env H o fr := by
    obtain ⟨dst, op, ty, pos, after, guard⟩ := o
    cases op <;> simp only [Op.operands] at h <;> simp only [aopWrite]
    case store t a x => rw [h a (by simp), h x (by simp)]
    case mapUpdate t m k x => rw [h m (by simp), h k (by simp), h x (by simp)]
    case insert t m k x => rw [h m (by simp), h k (by simp), h x (by simp)]
    case next it b => rw [h it (by simp)]
    case range t x => rw [h x (by simp)]
    case call c =>
      obtain ⟨callee, args, argTypes⟩ := c
      simp only [Call.operands] at h
      cases callee <;> simp only
      rename_i b
      cases b <;> simp only
      all_goals
        split
        · rename_i d x dt xt hx ht
          have hx' : args = #[d, x] := by simpa using congrArg List.toArray hx
          rw [h x (by simp [hx']), h d (by simp [hx'])]
        · rfl
  rw [this]

theorem effWild_congr {X : Run} {H : Heap} {m : Nat} {o : Oper} (h : ∀ x ∈ o.op.operands, evO cfg env' x = evO cfg env x) : effWild cfg X env' H m o = effWild cfg X env H m o := by
  unfold effWild
  split
  · rename_i c hop
    rw [hop] at h
    obtain ⟨callee, args, argTypes⟩ := c
    simp only [Op.operands, Call.operands] at h
    cases callee <;> simp only
    rename_i f
    simp only at h
    rw [h f (by simp), evOs_congr (fun x hx => h x (by simp; exact .inr (by simpa using hx)))]
  · rfl

def putD (env : Env) (d : Option Tmp) (p : PV) : Env :=
  match d with
  | some t => env.put t p
  | none => env

theorem effA_congr {X : Run} {cur : FuncId} {ops : Array Oper} {base i : Nat} {o : Oper} {H : Heap} {m : Nat} {d : Option Tmp} {p : PV} (hd : ∀ t, d = some t → t ∉ o.looksAt ops) (henv : env' = putD env d p) :
    effA cfg X cur ops base i o env' H m = effA cfg X cur ops base i o env H m := by
  have hat : ∀ t, t ∈ o.looksAt ops → env'.at t = env.at t := fun t ht => by
    rw [henv]
    cases d with
    | none => rfl
    | some u =>
      unfold Env.at putD
      rw [put_get]
      have : t ≠ u := fun e => hd u rfl (e ▸ ht)
      rw [if_neg this]
  have hev : ∀ x ∈ o.op.operands, evO cfg env' x = evO cfg env x := fun x hx => by
    cases x with
    | tmp t =>
      simp only [evO]
      rw [hat t (List.mem_append_left _ (List.mem_filterMap.2 ⟨.tmp t, by simpa using hx, rfl⟩))]
    | _ => rfl
  have hw : wantA env' ops o = wantA env ops o := by
    unfold wantA
    cases hg : o.guard with
    | none => rfl
    | some g =>
      obtain ⟨j, want⟩ := g
      simp only
      have : yieldA env' ops j = yieldA env ops j := by
        unfold yieldA
        cases hj : ops[j]? with
        | none => rfl
        | some oj =>
          cases hdj : oj.dst with
          | none => simp only [hdj]
          | some u =>
            simp only [hdj]
            rw [hat u]
            unfold Oper.looksAt
            rw [hg]
            exact List.mem_append_right _ (by simp [hj, hdj])
      rw [this]
  unfold effA
  rw [hw, effPure_congr hev, newOf_congr hev, effRead_congr hev, effWrite_congr hev, effWild_congr hev]
end
end Go.Proofs.YtddaogebacigbaaGreatDoor.RV
