/- The evaluator over abstract values, that it is right, its symbolic runs, in one text (part 2 of 2). Conditions: none. -/
import Derived.Test.YthabndifdgafbaaGreatDoorPkA1
section
set_option linter.constructorNameAsVariable false
namespace Go.Proofs.YthabndifdgafbaaGreatDoor.RV
section
variable {cfg : Cfg} {env env' : Env}
theorem evOs_congr : ∀ {xs : List Operand}, (∀ x ∈ xs, evO cfg env' x = evO cfg env x) → evOs cfg env' xs = evOs cfg env xs
  | [], _ => rfl
  | x :: xs, h => by
    unfold evOs
    rw [h x (by simp), evOs_congr (fun y hy => h y (by simp [hy]))]
theorem evParts_congr : ∀ {xs : List (Nat × Operand)}, (∀ x ∈ xs, evO cfg env' x.2 = evO cfg env x.2) → evParts cfg env' xs = evParts cfg env xs
  | [], _ => rfl
  | (i, x) :: xs, h => by
    unfold evParts
    rw [h (i, x) (by simp), evParts_congr (fun y hy => h y (by simp [hy]))]
theorem litOk_congr : ∀ {xs : List Operand}, (∀ x ∈ xs, evO cfg env' x = evO cfg env x) → litOk cfg env' xs = litOk cfg env xs
  | [], _ => rfl
  | x :: xs, h => by
    unfold litOk
    rw [h x (by simp), litOk_congr (fun y hy => h y (by simp [hy]))]
theorem litRun_congr {o : Oper} (h : ∀ x ∈ o.op.operands, evO cfg env' x = evO cfg env x) : litRun cfg env' o = litRun cfg env o := by
  unfold litRun
  split
  · rfl
  rename_i hs
  rw [litOk_congr (fun x hx => h x (by simpa using hx)), execOp_congr (ρ := litOf cfg env') (ρ' := litOf cfg env) o (fun cs b hc => by rw [hc] at hs; simp [isSel] at hs) (fun x hx => by unfold litOf; rw [h x hx])]
theorem optNat_congr {x : Option Operand} (h : ∀ y, x = some y → evO cfg env' y = evO cfg env y) : optNat cfg env' x = optNat cfg env x := by
  cases x with
  | none => rfl
  | some y => unfold optNat; simp only [h y rfl]
theorem aopPure_congr {o : Oper} (h : ∀ x ∈ o.op.operands, evO cfg env' x = evO cfg env x) : aopPure cfg env' o = aopPure cfg env o := by
  have hl := litRun_congr h
  obtain ⟨dst, op, ty, pos, after, guard⟩ := o
  cases op <;> simp only [Op.operands] at h <;> simp only [aopPure, hl]
  case move x => exact h x (by simp)
  case assign x => exact h x (by simp)
  case pick c a b => rw [h c (by simp), h a (by simp), h b (by simp)]
  case box t x => rw [h x (by simp)]
  case load t x => rw [h x (by simp)]
  case build t parts =>
    unfold buildA
    rw [evParts_congr (fun y hy => h y.2 (by simp; exact ⟨y.1, by simpa using hy⟩))]
  case buildSlice t n parts =>
    unfold buildSliceA
    rw [evParts_congr (fun y hy => h y.2 (by simp; exact ⟨y.1, by simpa using hy⟩))]
  case makeSlice t l c => unfold makeSliceA; rw [h l (by simp), h c (by simp)]
  case field t x i => unfold fieldA; rw [h x (by simp)]
  case extract t i => rw [h t (by simp)]
  case fieldAddr t x i => unfold fieldAddrA; rw [h x (by simp)]
  case indexAddr t x i => unfold indexAddrA; rw [h x (by simp), h i (by simp)]
  case slice t x lo hi mx =>
    unfold sliceA
    rw [h x (by simp), optNat_congr (fun y hy => h y (by simp [hy])), optNat_congr (fun y hy => h y (by simp [hy])), optNat_congr (fun y hy => h y (by simp [hy]))]
  case makeFunc fn first captured => rw [evOs_congr (fun y hy => h y (by simp at hy ⊢; exact .inl hy)), evOs_congr (fun y hy => h y (by simp at hy ⊢; exact .inr hy))]
  case nilCheck x => rw [h x (by simp)]
  case defer c =>
    obtain ⟨callee, args, argTypes⟩ := c
    simp only [Call.operands] at h
    unfold quietA
    cases callee
    case value f =>
      have h2 := h f (by simp)
      cases hl2 : args.toList with
      | nil => simp only; rw [h2]
      | cons y ys => rfl
    case invoke r m => rfl
    case builtin b => rfl
  case convert src dst x => rw [h x (by simp)]
  case binOp op t x y yt => unfold nilCmp; rw [h x (by simp), h y (by simp)]
  case call c =>
    obtain ⟨callee, args, argTypes⟩ := c
    simp only [Call.operands] at h
    cases callee
    case value f => rfl
    case invoke r m => rfl
    case builtin b =>
      cases b <;> simp only <;> (try rfl)
      all_goals
        split
        · rename_i x hx
          have hx' : args = #[x] := by simpa using congrArg List.toArray hx
          rw [h x (by simp [hx'])]
        · rfl
theorem callee_operands {op : Op} {g : FuncId} {xs : List Operand} (h : callee? op = some (g, xs)) : ∀ x ∈ xs, x ∈ op.operands := by
  cases op <;> simp only [callee?] at h <;> try cases h
  rename_i c
  obtain ⟨callee, args, argTypes⟩ := c
  cases callee <;> simp only at h <;> try cases h
  rename_i f
  cases f <;> simp only at h <;> cases h
  intro x hx
  simp [Op.operands, Call.operands]
  exact .inr (by simpa using hx)
theorem effPure_congr {X : Run} {o : Oper} (h : ∀ x ∈ o.op.operands, evO cfg env' x = evO cfg env x) : effPure cfg X env' o = effPure cfg X env o := by
  unfold effPure
  split
  · rename_i g xs hc
    rw [evOs_congr (fun x hx => h x (callee_operands hc x hx))]
  · exact aopPure_congr h
theorem newOf_congr {X : Run} {o : Oper} {id : Nat} (h : ∀ x ∈ o.op.operands, evO cfg env' x = evO cfg env x) : newOf cfg X env' o id = newOf cfg X env o id := by
  unfold newOf
  split
  · rename_i g xs hc
    rw [evOs_congr (fun x hx => h x (callee_operands hc x hx))]
  · rename_i hc
    clear hc
    obtain ⟨dst, op, ty, pos, after, guard⟩ := o
    cases op <;> simp only [Op.operands] at h <;> simp only [aopNew]
    case box t x => rw [h x (by simp)]
    case buildSlice t n parts =>
      unfold buildSliceA
      rw [evParts_congr (fun y hy => h y.2 (by simp; exact ⟨y.1, by simpa using hy⟩))]
    case makeSlice t l c => unfold makeSliceA; rw [h l (by simp), h c (by simp)]
    case makeMap t r =>
      cases r with
      | none => rfl
      | some x => simp only [h x (by simp)]
    case range t x => rw [h x (by simp)]
theorem effRead_congr {X : Run} {H : Heap} {o : Oper} (h : ∀ x ∈ o.op.operands, evO cfg env' x = evO cfg env x) : effRead cfg X env' H o = effRead cfg X env H o := by
  unfold effRead
  split
  · rename_i g xs hc
    rw [evOs_congr (fun x hx => h x (callee_operands hc x hx))]
  · rename_i hc
    clear hc
    obtain ⟨dst, op, ty, pos, after, guard⟩ := o
    cases op <;> simp only [Op.operands] at h <;> simp only [aopRead]
    case load t x => rw [h x (by simp)]
    case convert src dst x => rw [h x (by simp)]
    case entry it => rw [h it (by simp)]
    case lookup t m k ok => rw [h m (by simp), h k (by simp)]
    case call c =>
      obtain ⟨callee, args, argTypes⟩ := c
      simp only [Call.operands] at h
      cases callee <;> simp only
      rename_i b
      cases b <;> simp only
      split
      · rename_i x t hx ht
        have hx' : args = #[x] := by simpa using congrArg List.toArray hx
        rw [h x (by simp [hx'])]
      · rfl
theorem effWrite_congr {H : Heap} {o : Oper} {fr : Nat} (h : ∀ x ∈ o.op.operands, evO cfg env' x = evO cfg env x) : effWrite cfg env' H o fr = effWrite cfg env H o fr := by
  unfold effWrite
  have : aopWrite cfg env' H o fr = aopWrite cfg env H o fr := by
    obtain ⟨dst, op, ty, pos, after, guard⟩ := o
    cases op <;> simp only [Op.operands] at h <;> simp only [aopWrite]
    case store t a x => rw [h a (by simp), h x (by simp)]
    case mapUpdate t m k x => rw [h m (by simp), h k (by simp), h x (by simp)]
    case insert t m k x => rw [h m (by simp), h k (by simp), h x (by simp)]
    case next it b => rw [h it (by simp)]
    case convert s t x => rw [h x (by simp)]
    case range t x => rw [h x (by simp)]
    case call c =>
      obtain ⟨callee, args, argTypes⟩ := c
      simp only [Call.operands] at h
      cases callee <;> simp only
      rename_i b
      cases b <;> simp only
      all_goals
        split
        · rename_i d x dt xt hx ht
          have hx' : args = #[d, x] := by simpa using congrArg List.toArray hx
          rw [h x (by simp [hx']), h d (by simp [hx'])]
        · rfl
  rw [this]
theorem effWild_congr {X : Run} {H : Heap} {m : Nat} {o : Oper} (h : ∀ x ∈ o.op.operands, evO cfg env' x = evO cfg env x) : effWild cfg X env' H m o = effWild cfg X env H m o := by
  unfold effWild
  split
  · rename_i c hop
    rw [hop] at h
    obtain ⟨callee, args, argTypes⟩ := c
    simp only [Op.operands, Call.operands] at h
    cases callee <;> simp only
    rename_i f
    simp only at h
    rw [h f (by simp), evOs_congr (fun x hx => h x (by simp; exact .inr (by simpa using hx)))]
  · rfl
def putD (env : Env) (d : Option Tmp) (p : PV) : Env :=
  match d with
  | some t => env.put t p
  | none => env
theorem effA_congr {X : Run} {cur : FuncId} {ops : Array Oper} {base i : Nat} {o : Oper} {H : Heap} {m : Nat} {d : Option Tmp} {p : PV} (hd : ∀ t, d = some t → t ∉ o.looksAt ops) (henv : env' = putD env d p) :
    effA cfg X cur ops base i o env' H m = effA cfg X cur ops base i o env H m := by
  have hat : ∀ t, t ∈ o.looksAt ops → env'.at t = env.at t := fun t ht => by
    rw [henv]
    cases d with
    | none => rfl
    | some u =>
      unfold Env.at putD
      rw [put_get]
      have : t ≠ u := fun e => hd u rfl (e ▸ ht)
      rw [if_neg this]
  have hev : ∀ x ∈ o.op.operands, evO cfg env' x = evO cfg env x := fun x hx => by
    cases x with
    | tmp t =>
      simp only [evO]
      rw [hat t (List.mem_append_left _ (List.mem_filterMap.2 ⟨.tmp t, by simpa using hx, rfl⟩))]
    | _ => rfl
  have hw : wantA env' ops o = wantA env ops o := by
    unfold wantA
    cases hg : o.guard with
    | none => rfl
    | some g =>
      obtain ⟨j, want⟩ := g
      simp only
      have : yieldA env' ops j = yieldA env ops j := by
        unfold yieldA
        cases hj : ops[j]? with
        | none => rfl
        | some oj =>
          cases hdj : oj.dst with
          | none => simp only [hdj]
          | some u =>
            simp only [hdj]
            rw [hat u]
            unfold Oper.looksAt
            rw [hg]
            exact List.mem_append_right _ (by simp [hj, hdj])
      rw [this]
  unfold effA
  rw [hw, effPure_congr hev, newOf_congr hev, effRead_congr hev, effWrite_congr hev, effWild_congr hev]
end
end Go.Proofs.YthabndifdgafbaaGreatDoor.RV
end
section
section
set_option linter.unusedVariables false
namespace Go.Proofs.YthabndifdgafbaaGreatDoor.RV
def LeR (X Y : Run) : Prop := ∀ f c s r, X f c s = some r → Y f c s = some r
variable {cfg : Cfg} {X Y : Run}
theorem callA_mono (h : LeR X Y) {f args H m r} (e : callA cfg X f args H m = some r) : callA cfg Y f args H m = some r := by
  unfold callA at e ⊢
  split at e
  · exact e
  · split at e
    · exact e
    · split at e
      · exact e
      · split at e
        · rename_i hl
          rw [if_pos hl]
          split at e
          · cases e
          · rename_i x s hx hex
            rw [h _ _ _ _ hex]
            cases x with
            | exit id => exact absurd rfl (hx id)
            | normal => exact e
            | ret => exact e
          · cases e
        · cases e
theorem callPure_mono (h : LeR X Y) {f args r} (e : callPure cfg X f args = some r) : callPure cfg Y f args = some r := by
  unfold callPure at e ⊢
  split at e
  · exact e
  · split at e
    · rename_i hc; rw [callA_mono h hc]; exact e
    · cases e
theorem pureCall_mono (h : LeR X Y) {f args r} (e : pureCall cfg X f args = some r) : pureCall cfg Y f args = some r := by
  unfold pureCall at e ⊢
  split at e
  · exact callPure_mono h e
  · exact callPure_mono h e
  · exact e
  · exact e
  · exact e
theorem importA_mono (h : LeR X Y) {f args id r} (e : importA cfg X f args id = some r) : importA cfg Y f args id = some r := by
  unfold importA at e ⊢
  split at e
  · exact e
  · split at e
    · rename_i hc; rw [callA_mono h hc]; exact e
    · rename_i hc; rw [callA_mono h hc]; exact e
    · cases e
theorem newOf_mono (h : LeR X Y) {env o id r} (e : newOf cfg X env o id = some r) : newOf cfg Y env o id = some r := by
  unfold newOf at e ⊢
  split at e
  · split at e
    · exact importA_mono h e
    · cases e
  · exact e
theorem effPure_mono (h : LeR X Y) {env o r} (e : effPure cfg X env o = some r) : effPure cfg Y env o = some r := by
  unfold effPure at e ⊢
  split at e
  · split at e
    · exact pureCall_mono h e
    · cases e
  · exact e
theorem effRead_mono (h : LeR X Y) {env H o r} (e : effRead cfg X env H o = some r) : effRead cfg Y env H o = some r := by
  unfold effRead at e ⊢
  split at e
  · split at e
    · split at e
      · split at e
        · rename_i hc; rw [pureCall_mono h hc]; exact e
        · cases e
      · cases e
    · cases e
  · exact e
theorem effWild_mono (h : LeR X Y) {env H m o r} (e : effWild cfg X env H m o = some r) : effWild cfg Y env H m o = some r := by
  unfold effWild at e ⊢
  split at e
  · split at e
    · split at e
      · split at e
        · exact callA_mono h e
        · split at e
          · rename_i hc; rw [pureCall_mono h hc]; exact e
          · cases e
      · cases e
    · cases e
  · cases e
theorem effA_mono (h : LeR X Y) {cur ops base i o env H m r} (e : effA cfg X cur ops base i o env H m = some r) : effA cfg Y cur ops base i o env H m = some r := by
  unfold effA at e ⊢
  split at e
  · exact e
  · split at e
    · split at e
      · rename_i hc; rw [effPure_mono h hc]; exact e
      · cases e
    · split at e
      · rename_i hc; rw [newOf_mono h hc]; exact e
      · rename_i hc; rw [newOf_mono h hc]; exact e
      · cases e
    · split at e
      · rename_i hc; rw [effRead_mono h hc]; exact e
      · cases e
    · exact e
    · exact effWild_mono h e
theorem stepA_mono (h : LeR X Y) {cur ops base i o s r} (e : stepA cfg X cur ops base i o s = some r) : stepA cfg Y cur ops base i o s = some r := by
  unfold stepA at e ⊢
  split at e
  · rename_i hc; rw [effA_mono h hc]; exact e
  · cases e
theorem runOps_mono (h : LeR X Y) {cur ops base} : ∀ (l : List Oper) (i : Nat) (s r : St), runOps cfg X cur ops base l i s = some r → runOps cfg Y cur ops base l i s = some r
  | [], _, _, _, e => e
  | o :: os, i, s, r, e => by
    unfold runOps at e ⊢
    split at e
    · rename_i hc; rw [stepA_mono h hc]; exact runOps_mono h os _ _ _ e
    · cases e
theorem exec_mono1 : ∀ k, LeR (exec cfg k) (exec cfg (k + 1))
  | 0, _, _, _, _, e => by simp [exec] at e
  | k + 1, cur, c, s, r, e => by
    have ih := exec_mono1 k
    unfold exec at e ⊢
    cases c <;> first | exact e | skip
    · dsimp only at e ⊢
      split at e
      · rename_i hc; rw [runOps_mono ih _ _ _ _ hc]; exact e
      · cases e
    · dsimp only at e ⊢
      split at e
      · rename_i hc; rw [ih _ _ _ _ hc]; exact ih _ _ _ _ e
      · rename_i x hx
        obtain ⟨ex, s1⟩ := r
        rw [ih _ _ _ _ e]
        cases ex with
        | normal => exact absurd e (hx _)
        | _ => rfl
    · dsimp only at e ⊢
      split at e
      · exact ih _ _ _ _ e
      · exact ih _ _ _ _ e
      · cases e
    · dsimp only at e ⊢
      split at e
      · rename_i hc; rw [ih _ _ _ _ hc]; exact e
      · rename_i x hx
        obtain ⟨ex, s1⟩ := r
        rw [ih _ _ _ _ e]
        cases ex with
        | exit id => exact absurd e (hx _ _)
        | _ => rfl
    · dsimp only at e ⊢
      split at e
      · rename_i hc; rw [ih _ _ _ _ hc]; exact ih _ _ _ _ e
      · rename_i x hx
        obtain ⟨ex, s1⟩ := r
        rw [ih _ _ _ _ e]
        cases ex with
        | normal => exact absurd e (hx _)
        | _ => rfl
    · exact ih _ _ _ _ e
theorem exec_mono {k n : Nat} (h : k ≤ n) : LeR (exec cfg k) (exec cfg n) := by
  induction h with
  | refl => exact fun _ _ _ _ e => e
  | step _ ih => exact fun _ _ _ _ e => exec_mono1 _ _ _ _ _ (ih _ _ _ _ e)
end Go.Proofs.YthabndifdgafbaaGreatDoor.RV
end
section
set_option linter.unusedVariables false
namespace Go.Proofs.YthabndifdgafbaaGreatDoor.RV
variable {cfg : Cfg} {cur : FuncId}
def Ev (cfg : Cfg) (cur : FuncId) (c : Code) (s : St) (Q : Ex → St → Prop) : Prop := ∃ k e s', exec cfg k cur c s = some (e, s') ∧ Q e s'
def Ro (cfg : Cfg) (cur : FuncId) (ops : Array Oper) (base : Nat) (l : List Oper) (i : Nat) (s : St) (Q : St → Prop) : Prop :=
  ∃ k s', runOps cfg (exec cfg k) cur ops base l i s = some s' ∧ Q s'
def Fn (cfg : Cfg) (f : FuncId) (args : List PV) (Q : PV → Prop) : Prop := ∃ k p, callPure cfg (exec cfg k) f args = some p ∧ Q p
def Fm (cfg : Cfg) (f : FuncId) (args : List PV) (H : Heap) (m : Nat) (Q : PV → Heap → Nat → Prop) : Prop :=
  ∃ k p H' m', callA cfg (exec cfg k) f args H m = some (p, H', m') ∧ Q p H' m'
def Thn (cfg : Cfg) (cur : FuncId) (b : Code) (Q : Ex → St → Prop) : Ex → St → Prop
  | .normal, s => Ev cfg cur b s Q
  | .exit id, s => Q (.exit id) s
  | .ret, s => Q .ret s
def Blk (id : Nat) (Q : Ex → St → Prop) : Ex → St → Prop
  | .exit id', s => if id' = id then Q .normal s else Q (.exit id') s
  | .normal, s => Q .normal s
  | .ret, s => Q .ret s
theorem Ev.mono {c s} {Q R : Ex → St → Prop} (h : Ev cfg cur c s Q) (hq : ∀ e s', Q e s' → R e s') : Ev cfg cur c s R := by
  obtain ⟨k, e, s', h1, h2⟩ := h
  exact ⟨k, e, s', h1, hq _ _ h2⟩
theorem Ev.skip {s} {Q : Ex → St → Prop} (h : Q .normal s) : Ev cfg cur .skip s Q := ⟨1, _, _, rfl, h⟩
theorem Ev.label {id s} {Q : Ex → St → Prop} (h : Q .normal s) : Ev cfg cur (.label id) s Q := ⟨1, _, _, rfl, h⟩
theorem Ev.exit {id s} {Q : Ex → St → Prop} (h : Q (.exit id) s) : Ev cfg cur (.exit id) s Q := ⟨1, _, _, rfl, h⟩
theorem Ev.ret {s} {Q : Ex → St → Prop} (h : Q .ret s) : Ev cfg cur .ret s Q := ⟨1, _, _, rfl, h⟩
theorem Ev.seq {a b s} {Q : Ex → St → Prop} (h : Ev cfg cur a s (Thn cfg cur b Q)) : Ev cfg cur (.seq a b) s Q := by
  obtain ⟨k, e, s', h1, h2⟩ := h
  cases e with
  | normal =>
    obtain ⟨k2, e2, s2, h3, h4⟩ := h2
    refine ⟨max k k2 + 1, e2, s2, ?_, h4⟩
    unfold exec
    dsimp only
    rw [exec_mono (Nat.le_max_left k k2) _ _ _ _ h1]
    exact exec_mono (Nat.le_max_right k k2) _ _ _ _ h3
  | exit id => refine ⟨k + 1, _, s', ?_, h2⟩; unfold exec; dsimp only; rw [h1]
  | ret => refine ⟨k + 1, _, s', ?_, h2⟩; unfold exec; dsimp only; rw [h1]
theorem Ev.cond {c a b s t} {Q : Ex → St → Prop} (hc : condA cfg s c = some t) (h1 : t = true → Ev cfg cur a s Q) (h2 : t = false → Ev cfg cur b s Q) : Ev cfg cur (.cond c a b) s Q := by
  cases t with
  | true =>
    obtain ⟨k, e, s', h1, h2⟩ := h1 rfl
    exact ⟨k + 1, e, s', by unfold exec; dsimp only; rw [hc]; exact h1, h2⟩
  | false =>
    obtain ⟨k, e, s', h1, h2⟩ := h2 rfl
    exact ⟨k + 1, e, s', by unfold exec; dsimp only; rw [hc]; exact h1, h2⟩
theorem Ev.block {id b s} {Q : Ex → St → Prop} (h : Ev cfg cur b s (Blk id Q)) : Ev cfg cur (.block id b) s Q := by
  obtain ⟨k, e, s', h1, h2⟩ := h
  cases e with
  | exit id' =>
    by_cases hi : id' = id
    · refine ⟨k + 1, .normal, s', ?_, by simpa [Blk, hi] using h2⟩
      unfold exec; dsimp only; rw [h1]; simp only [hi, if_true]
    · refine ⟨k + 1, .exit id', s', ?_, by simpa [Blk, hi] using h2⟩
      unfold exec; dsimp only; rw [h1]; simp only [hi, if_false]
  | normal => refine ⟨k + 1, _, s', ?_, h2⟩; unfold exec; dsimp only; rw [h1]
  | ret => refine ⟨k + 1, _, s', ?_, h2⟩; unfold exec; dsimp only; rw [h1]
theorem Ev.scope {b s} {Q : Ex → St → Prop} (h : Ev cfg cur b s Q) : Ev cfg cur (.scope b) s Q := by
  obtain ⟨k, e, s', h1, h2⟩ := h
  exact ⟨k + 1, e, s', by unfold exec; exact h1, h2⟩
theorem Ev.loop1 {b s} {Q : Ex → St → Prop} (h : Ev cfg cur b s (Thn cfg cur (.loop b) Q)) : Ev cfg cur (.loop b) s Q := by
  obtain ⟨k, e, s', h1, h2⟩ := h
  cases e with
  | normal =>
    obtain ⟨k2, e2, s2, h3, h4⟩ := h2
    refine ⟨max k k2 + 1, e2, s2, ?_, h4⟩
    unfold exec
    dsimp only
    rw [exec_mono (Nat.le_max_left k k2) _ _ _ _ h1]
    exact exec_mono (Nat.le_max_right k k2) _ _ _ _ h3
  | exit id => refine ⟨k + 1, _, s', ?_, h2⟩; unfold exec; dsimp only; rw [h1]
  | ret => refine ⟨k + 1, _, s', ?_, h2⟩; unfold exec; dsimp only; rw [h1]
def Rnd (I : Nat → St → Prop) (n : Nat) (Q : Ex → St → Prop) : Ex → St → Prop
  | .normal, s => ∃ n', n' < n ∧ I n' s
  | .exit id, s => Q (.exit id) s
  | .ret, s => Q .ret s
theorem Ev.loop {b : Code} (I : Nat → St → Prop) {Q : Ex → St → Prop} (hr : ∀ n s, I n s → Ev cfg cur b s (Rnd I n Q)) : ∀ (n : Nat) (s : St), I n s → Ev cfg cur (.loop b) s Q := by
  intro n
  induction n using Nat.strongRecOn with
  | _ n ih =>
    intro s hs
    refine Ev.loop1 ((hr n s hs).mono ?_)
    intro e s' h
    cases e with
    | normal => obtain ⟨n', hn, hI⟩ := h; exact ih n' hn _ hI
    | exit id => exact h
    | ret => exact h
theorem Ev.region {id ops d s} {Q : Ex → St → Prop} (hb : (d && cfg.bad cur id) = false) (h : Ro cfg cur ops s.m ops.toList 0 ⟨s.env, s.H, s.m + ops.size, s.sz⟩ (Q .normal)) : Ev cfg cur (.region id ops d) s Q := by
  obtain ⟨k, s', h1, h2⟩ := h
  refine ⟨k + 1, .normal, s', ?_, h2⟩
  unfold exec
  dsimp only
  rw [h1]
  dsimp only
  rw [hb]
theorem Ro.nil {ops base i s} {Q : St → Prop} (h : Q s) : Ro cfg cur ops base [] i s Q := ⟨0, s, rfl, h⟩
def noX : Run := fun _ _ _ => none
theorem noX_le (X : Run) : LeR noX X := fun _ _ _ _ h => by cases h
theorem Ro.step {ops base o os i s s'} {Q : St → Prop} (h : stepA cfg noX cur ops base i o s = some s') (h2 : Ro cfg cur ops base os (i + 1) s' Q) : Ro cfg cur ops base (o :: os) i s Q := by
  obtain ⟨k, r, h1, h2⟩ := h2
  refine ⟨k, r, ?_, h2⟩
  unfold runOps
  rw [stepA_mono (noX_le _) h]
  exact h1
theorem Ro.stepX {ops base o os i s s' k} {Q : St → Prop} (h : stepA cfg (exec cfg k) cur ops base i o s = some s') (h2 : Ro cfg cur ops base os (i + 1) s' Q) : Ro cfg cur ops base (o :: os) i s Q := by
  obtain ⟨n, r, h1, h2⟩ := h2
  refine ⟨max k n, r, ?_, h2⟩
  unfold runOps
  rw [stepA_mono (exec_mono (Nat.le_max_left k n)) h]
  exact runOps_mono (exec_mono (Nat.le_max_right k n)) _ _ _ _ h1
theorem Ro.run {ops base l i s s'} {Q : St → Prop} (h : runOps cfg noX cur ops base l i s = some s') (h2 : Q s') : Ro cfg cur ops base l i s Q :=
  ⟨0, s', runOps_mono (noX_le _) _ _ _ _ h, h2⟩
def isEnd : Ex → Bool
  | .exit _ => false
  | _ => true
theorem Fm.of {f : FuncId} {fn : Func} {c : Code} {args H m} {Q : PV → Heap → Nat → Prop} (hf : cfg.P.funcs[f]? = some fn) (hc : fn.body = some c) (hs : cfg.fns f = true) (hn : args.length ≤ fn.ntmps ∧ fn.ntmps ≤ 8000)
    (h : Ev cfg f c ⟨envOf args 0 .e, H, m, fn.ntmps⟩ fun e s => isEnd e = true ∧ ∃ p, resA cfg.P s fn.results.toList = some p ∧ Q p s.H s.m) : Fm cfg f args H m Q := by
  obtain ⟨k, e, s, h1, he, p, hp, hq⟩ := h
  refine ⟨k, p, s.H, s.m, ?_, hq⟩
  unfold callA
  rw [hs]
  dsimp only
  rw [hf]
  dsimp only
  rw [hc]
  dsimp only
  rw [if_pos hn, h1]
  cases e with
  | exit id => cases he
  | normal => dsimp only; rw [hp]
  | ret => dsimp only; rw [hp]
theorem Fn.of {f : FuncId} {fn : Func} {c : Code} {args} {Q : PV → Prop} (hf : cfg.P.funcs[f]? = some fn) (hc : fn.body = some c) (hs : cfg.fns f = true) (hn : args.length ≤ fn.ntmps ∧ fn.ntmps ≤ 8000) (hd : deepL args = true)
    (h : Ev cfg f c ⟨envOf args 0 .e, .e, 0, fn.ntmps⟩ fun e s => isEnd e = true ∧ ∃ p q, resA cfg.P s fn.results.toList = some p ∧ deepen s.H fuelD p = some q ∧ Q q) : Fn cfg f args Q := by
  obtain ⟨k, p, H', m', h1, q, h2, h3⟩ := Fm.of (Q := fun p H _ => ∃ q, deepen H fuelD p = some q ∧ Q q) hf hc hs hn (h.mono fun e s ⟨he, p, q, hp, hq, hQ⟩ => ⟨he, p, hp, q, hq, hQ⟩)
  refine ⟨k, q, ?_, h3⟩
  unfold callPure
  rw [hd]
  dsimp only
  rw [h1]
  exact h2
end Go.Proofs.YthabndifdgafbaaGreatDoor.RV
end
section
set_option linter.unusedVariables false
namespace Go.Proofs.YthabndifdgafbaaGreatDoor.RV
variable {cfg : Cfg} {cur : FuncId}
abbrev Fr := List (Nat × PV)
abbrev Mem := List (Nat × Nat × HObj)
def lk : Fr → Nat → Option PV
  | [], _ => none
  | (a, p) :: r, t => match Nat.beq a t with | true => some p | false => lk r t
def Cv (env : Env) (L : Fr) : Prop := ∀ t p, lk L t = some p → env.at t = p
def evl (cfg : Cfg) (L : Fr) : Operand → Option PV
  | .tmp t => lk L t
  | .const v => some (ofVal v)
  | .global g => match cfg.glob g with | some l => some (.dptr l 0) | none => none
  | .func f => some (.clo f [] [])
def evls (cfg : Cfg) (L : Fr) : List Operand → Option (List PV)
  | [] => some []
  | x :: xs => match evl cfg L x with
    | some p => match evls cfg L xs with | some ps => some (p :: ps) | none => none
    | none => none
theorem evl_ok {env : Env} {L : Fr} (h : Cv env L) {x : Operand} {p : PV} (e : evl cfg L x = some p) : evO cfg env x = some p := by
  cases x with
  | tmp t => exact congrArg some (h t p e)
  | const v => exact e
  | global g => exact e
  | func f => exact e
theorem evls_ok {env : Env} {L : Fr} (h : Cv env L) : ∀ {xs : List Operand} {ps : List PV}, evls cfg L xs = some ps → evOs cfg env xs = some ps
  | [], ps, e => e
  | x :: xs, ps, e => by
    unfold evls at e
    unfold evOs
    split at e
    · rename_i p hp
      rw [evl_ok h hp]
      split at e
      · rename_i q hq
        dsimp only
        rw [evls_ok h hq]
        exact e
      · cases e
    · cases e
theorem Cv.put {env : Env} {L : Fr} (h : Cv env L) (d : Nat) (p : PV) : Cv (env.put d p) ((d, p) :: L) := by
  intro t q hq
  unfold lk at hq
  unfold Env.at
  rw [put_get]
  split at hq
  · rename_i e
    cases hq
    rw [if_pos (Nat.eq_of_beq_eq_true e).symm]
  · rename_i e
    rw [if_neg (fun hh => by rw [hh, Nat.beq_refl] at e; cases e)]
    exact h t q hq
def CvH (H : Heap) (M : Mem) : Prop := (M.map (·.1)).Nodup ∧ ∀ id v o, (id, v, o) ∈ M → H.get id = some (v, o)
theorem CvH.obj {H : Heap} {M : Mem} (h : CvH H M) {k id v : Nat} {o : HObj} (e : M[k]? = some (id, v, o)) : obj H id v = some o := by
  have := h.2 id v o (List.mem_of_getElem? e)
  unfold RV.obj
  rw [this]
  simp
theorem CvH.new {H : Heap} {M : Mem} (h : CvH H M) {id : Nat} (hn : H.get id = none) (v : Nat) (o : HObj) : CvH (H.put id (v, o)) ((id, v, o) :: M) := by
  refine ⟨List.nodup_cons.2 ⟨fun hm => ?_, h.1⟩, fun id' v' o' hm => ?_⟩
  · obtain ⟨⟨a, b, c⟩, hm2, rfl⟩ := List.mem_map.1 hm
    dsimp only at hn
    rw [h.2 _ _ _ hm2] at hn
    cases hn
  · rw [put_get]
    rcases List.mem_cons.1 hm with e | hm
    · cases e
      rw [if_pos rfl]
    · have := h.2 _ _ _ hm
      rw [if_neg (fun e => by rw [e, hn] at this; cases this)]
      exact this
theorem CvH.perm {H : Heap} {M M' : Mem} (h : CvH H M) (hp : M.Perm M') : CvH H M' :=
  ⟨(hp.map _).nodup_iff.1 h.1, fun id v o hm => h.2 id v o (hp.mem_iff.2 hm)⟩
theorem CvH.sublist {H : Heap} {M M' : Mem} (h : CvH H M) (hp : M'.Sublist M) : CvH H M' :=
  ⟨h.1.sublist (hp.map _), fun id v o hm => h.2 id v o (hp.subset hm)⟩
theorem set_ids : ∀ (M : Mem) (k id v v' : Nat) (o o' : HObj), M[k]? = some (id, v, o) → (M.set k (id, v', o')).map (·.1) = M.map (·.1)
  | [], k, _, _, _, _, _, h => by simp at h
  | x :: M, 0, id, v, v', o, o', h => by simp at h; subst h; rfl
  | x :: M, k + 1, id, v, v', o, o', h => by
    simp only [List.getElem?_cons_succ] at h
    simp only [List.set_cons_succ, List.map_cons, set_ids M k id v v' o o' h]
theorem CvH.set {H : Heap} {M : Mem} (h : CvH H M) {k id v : Nat} {o : HObj} (e : M[k]? = some (id, v, o)) (v' : Nat) (o' : HObj) : CvH (H.put id (v', o')) (M.set k (id, v', o')) := by
  refine ⟨by rw [set_ids _ _ _ _ _ _ _ e]; exact h.1, fun i w q hm => ?_⟩
  rw [put_get]
  obtain ⟨j, hj⟩ := List.getElem?_of_mem hm
  rw [List.getElem?_set] at hj
  by_cases hkj : k = j
  · rw [if_pos hkj] at hj
    split at hj <;> cases hj
    rw [if_pos rfl]
  · rw [if_neg hkj] at hj
    have hne : i ≠ id := by
      intro hh
      subst hh
      have hlt1 := (List.getElem?_eq_some_iff.1 e).1
      have hlt2 := (List.getElem?_eq_some_iff.1 hj).1
      have h1 : (M.map (·.1))[k]? = some i := by rw [List.getElem?_map, e]; rfl
      have h2 : (M.map (·.1))[j]? = some i := by rw [List.getElem?_map, hj]; rfl
      have hl : (M.map (·.1)).length = M.length := List.length_map ..
      have := (List.getElem?_inj (by rw [hl]; exact hlt1) h.1).1 (h1.trans h2.symm)
      exact hkj this
    rw [if_neg hne]
    exact h.2 _ _ _ (List.mem_of_getElem? hj)
def Fre (H : Heap) (a b m : Nat) : Prop := ∀ id, (a ≤ id ∧ id < b) ∨ m ≤ id → H.get id = none
def Ps (sz : Nat) (L : Fr) (M : Mem) (Q : St → Prop) : Prop :=
  ∀ env H m, Cv env L → CvH H M → (∀ id, m ≤ id → H.get id = none) → Q ⟨env, H, m, sz⟩
def Rs (cfg : Cfg) (cur : FuncId) (ops : Array Oper) (n sz : Nat) (l : List Oper) (i : Nat) (L : Fr) (M : Mem) (Q : St → Prop) : Prop :=
  ∀ base env H m, i + l.length = n → base + n ≤ m → Cv env L → CvH H M → Fre H (base + i) (base + n) m → Ro cfg cur ops base l i ⟨env, H, m, sz⟩ Q
variable {sz : Nat} {L : Fr} {M : Mem} {ops : Array Oper} {n i : Nat} {os : List Oper} {Q : St → Prop} {R : Ex → St → Prop}
theorem Ps.mono {Q' : St → Prop} (h : Ps sz L M Q) (hq : ∀ s, Q s → Q' s) : Ps sz L M Q' := fun env H m h1 h2 h3 => hq _ (h env H m h1 h2 h3)
theorem Ps.region {id : Nat} {d : Bool} (hb : (d && cfg.bad cur id) = false) (h : Rs cfg cur ops ops.size sz ops.toList 0 L M (R .normal)) : Ps sz L M (fun s => Ev cfg cur (.region id ops d) s R) := by
  intro env H m h1 h2 h3
  refine Ev.region hb (h m env H (m + ops.size) (by simp) (Nat.le_refl _) h1 h2 ?_)
  rintro x (hx | hx)
  · exact h3 x (by omega)
  · exact h3 x (by omega)
theorem Rs.nil (h : Ps sz L M Q) : Rs cfg cur ops n sz [] i L M Q := by
  intro base env H m hn hm h1 h2 h3
  exact Ro.nil (h env H m h1 h2 fun id hid => h3 id (.inr hid))
theorem Ps.seq {a b : Code} (h : Ps sz L M (fun s => Ev cfg cur a s (Thn cfg cur b R))) : Ps sz L M (fun s => Ev cfg cur (.seq a b) s R) := h.mono fun _ h => Ev.seq h
theorem Ps.block {id : Nat} {b : Code} (h : Ps sz L M (fun s => Ev cfg cur b s (Blk id R))) : Ps sz L M (fun s => Ev cfg cur (.block id b) s R) := h.mono fun _ h => Ev.block h
theorem Ps.scope {b : Code} (h : Ps sz L M (fun s => Ev cfg cur b s R)) : Ps sz L M (fun s => Ev cfg cur (.scope b) s R) := h.mono fun _ h => Ev.scope h
theorem Ps.skip (h : Ps sz L M (R .normal)) : Ps sz L M (fun s => Ev cfg cur .skip s R) := h.mono fun _ h => Ev.skip h
theorem Ps.label {id : Nat} (h : Ps sz L M (R .normal)) : Ps sz L M (fun s => Ev cfg cur (.label id) s R) := h.mono fun _ h => Ev.label h
theorem Ps.exit {id : Nat} (h : Ps sz L M (R (.exit id))) : Ps sz L M (fun s => Ev cfg cur (.exit id) s R) := h.mono fun _ h => Ev.exit h
theorem Ps.ret (h : Ps sz L M (R .ret)) : Ps sz L M (fun s => Ev cfg cur .ret s R) := h.mono fun _ h => Ev.ret h
theorem Ps.cond {c : Operand} {a b : Code} {t : Bool} (hc : evl cfg L c = some (.lit (.bool t))) (h1 : t = true → Ps sz L M (fun s => Ev cfg cur a s R)) (h2 : t = false → Ps sz L M (fun s => Ev cfg cur b s R)) :
    Ps sz L M (fun s => Ev cfg cur (.cond c a b) s R) := by
  intro env H m e1 e2 e3
  refine Ev.cond (t := t) ?_ (fun h => h1 h env H m e1 e2 e3) (fun h => h2 h env H m e1 e2 e3)
  unfold condA
  rw [evl_ok e1 hc]
theorem Ps.thn {b : Code} (h : Ps sz L M (fun s => Ev cfg cur b s R)) : Ps sz L M (Thn cfg cur b R .normal) := h
theorem Ps.thn_exit {b : Code} {id : Nat} (h : Ps sz L M (R (.exit id))) : Ps sz L M (Thn cfg cur b R (.exit id)) := h
theorem Ps.thn_ret {b : Code} (h : Ps sz L M (R .ret)) : Ps sz L M (Thn cfg cur b R .ret) := h
theorem Ps.blk {id : Nat} (h : Ps sz L M (R .normal)) : Ps sz L M (Blk id R .normal) := h
theorem Ps.blk_ret {id : Nat} (h : Ps sz L M (R .ret)) : Ps sz L M (Blk id R .ret) := h
theorem Ps.blk_here {id : Nat} (h : Ps sz L M (R .normal)) : Ps sz L M (Blk id R (.exit id)) := h.mono fun s h => by simpa [Blk] using h
theorem Ps.blk_there {id id' : Nat} (hne : Nat.beq id' id = false) (h : Ps sz L M (R (.exit id'))) : Ps sz L M (Blk id R (.exit id')) := h.mono fun s h => by
  have : id' ≠ id := fun e => by rw [e, Nat.beq_refl] at hne; cases hne
  simpa [Blk, this] using h
theorem Ps.sub {L' : Fr} {M' : Mem} (h : Ps sz L' M' Q) (hL : ∀ t p, lk L' t = some p → lk L t = some p) (hM : M'.Sublist M) : Ps sz L M Q :=
  fun env H m h1 h2 h3 => h env H m (fun t p e => h1 t p (hL t p e)) (h2.sublist hM) h3
def dropW (W : List Nat) : Fr → Fr
  | [] => []
  | (t, p) :: r => match W.any (Nat.beq t) with | true => dropW W r | false => (t, p) :: dropW (t :: W) r
theorem lk_dropW (t : Nat) (p : PV) : ∀ (L : Fr) (W : List Nat), lk (dropW W L) t = some p → lk L t = some p ∧ W.any (Nat.beq t) = false
  | [], _, h => by cases h
  | (a, q) :: r, W, h => by
    unfold dropW at h
    unfold lk
    split at h
    · rename_i hw
      obtain ⟨h1, h2⟩ := lk_dropW t p r W h
      refine ⟨?_, h2⟩
      split
      · rename_i e
        rw [← Nat.eq_of_beq_eq_true e, hw] at h2
        cases h2
      · exact h1
    · rename_i hw
      unfold lk at h
      split at h
      · rename_i e
        cases h
        rw [← Nat.eq_of_beq_eq_true e]
        exact ⟨rfl, hw⟩
      · obtain ⟨h1, h2⟩ := lk_dropW t p r (a :: W) h
        rw [List.any_cons, Bool.or_eq_false_iff] at h2
        exact ⟨h1, h2.2⟩
def HasL (L : Fr) : Fr → Prop
  | [] => True
  | (t, p) :: r => lk L t = some p ∧ HasL L r
theorem HasL.lk : ∀ {L L' : Fr}, HasL L L' → ∀ t p, RV.lk L' t = some p → RV.lk L t = some p
  | L, [], _, t, p, h => by cases h
  | L, (a, q) :: r, hh, t, p, h => by
    obtain ⟨h1, h2⟩ := hh
    unfold RV.lk at h
    split at h
    · rename_i e
      cases h
      rw [← Nat.eq_of_beq_eq_true e]
      exact h1
    · exact HasL.lk h2 t p h
theorem lk_app {t : Nat} {p : PV} : ∀ (A B : Fr), lk (A ++ B) t = some p → lk A t = some p ∨ lk B t = some p
  | [], B, h => .inr h
  | (a, q) :: A, B, h => by
    have h : (match Nat.beq a t with | true => some q | false => lk (A ++ B) t) = some p := h
    show (match Nat.beq a t with | true => some q | false => lk A t) = some p ∨ _
    cases e : Nat.beq a t with
    | true => rw [e] at h; exact .inl h
    | false => rw [e] at h; exact lk_app A B h
structure Head (J : Type) where
  C : J → Prop
  E : J → Fr
  M : J → Mem
  μ : J → Nat
def RndJ {J : Type} (sz : Nat) (hd : Head J) (L0 : Fr) (j : J) (R : Ex → St → Prop) : Ex → St → Prop
  | .normal, s => ∃ j', hd.C j' ∧ hd.μ j' < hd.μ j ∧ s.sz = sz ∧ Cv s.env (hd.E j' ++ L0) ∧ CvH s.H (hd.M j') ∧ ∀ id, s.m ≤ id → s.H.get id = none
  | .exit id, s => R (.exit id) s
  | .ret, s => R .ret s
theorem Ps.loop {J : Type} (hd : Head J) (W : List Nat) (L0 : Fr) (j : J) {b : Code} (hL0 : dropW W L = L0) (hC : hd.C j) (hE : HasL L (hd.E j)) (hM : (hd.M j).Sublist M)
    (hr : ∀ j, hd.C j → Ps sz (hd.E j ++ L0) (hd.M j) (fun s => Ev cfg cur b s (RndJ sz hd L0 j R))) : Ps sz L M (fun s => Ev cfg cur (.loop b) s R) := by
  subst hL0
  intro env H m h1 h2 h3
  refine Ev.loop (fun n s => ∃ j, n = hd.μ j ∧ hd.C j ∧ s.sz = sz ∧ Cv s.env (hd.E j ++ dropW W L) ∧ CvH s.H (hd.M j) ∧ ∀ id, s.m ≤ id → s.H.get id = none) ?_ _ _ ⟨j, rfl, hC, rfl, ?_, h2.sublist hM, h3⟩
  · rintro n ⟨env, H, m, sz'⟩ ⟨j, rfl, hC, rfl, g1, g2, g3⟩
    refine (hr j hC env H m g1 g2 g3).mono ?_
    intro e s' h
    cases e with
    | normal =>
      obtain ⟨j', a1, a2, a3, a4, a5, a6⟩ := h
      exact ⟨_, a2, j', rfl, a1, a3, a4, a5, a6⟩
    | exit id => exact h
    | ret => exact h
  · intro t p hp
    rcases lk_app _ _ hp with h | h
    · exact h1 t p (HasL.lk hE t p h)
    · exact h1 t p (lk_dropW t p L W h).1
theorem Ps.round {J : Type} {hd : Head J} {L0 : Fr} {j : J} (j' : J) (hC : hd.C j') (hμ : hd.μ j' < hd.μ j) (hE : HasL L (hd.E j')) (h0 : HasL L L0) (hM : (hd.M j').Sublist M) :
    Ps sz L M (RndJ sz hd L0 j R .normal) := by
  intro env H m h1 h2 h3
  refine ⟨j', hC, hμ, rfl, ?_, h2.sublist hM, h3⟩
  intro t p hp
  rcases lk_app _ _ hp with h | h
  · exact h1 t p (HasL.lk hE t p h)
  · exact h1 t p (HasL.lk h0 t p h)
theorem Ps.rnd_exit {J : Type} {hd : Head J} {L0 : Fr} {j : J} {id : Nat} (h : Ps sz L M (R (.exit id))) : Ps sz L M (RndJ sz hd L0 j R (.exit id)) := h
theorem Ps.rnd_ret {J : Type} {hd : Head J} {L0 : Fr} {j : J} (h : Ps sz L M (R .ret)) : Ps sz L M (RndJ sz hd L0 j R .ret) := h
end Go.Proofs.YthabndifdgafbaaGreatDoor.RV
end
section
set_option linter.unusedVariables false
namespace Go.Proofs.YthabndifdgafbaaGreatDoor.RV
variable {cfg : Cfg} {cur : FuncId} {sz : Nat} {L : Fr} {M : Mem} {ops : Array Oper} {n i : Nat} {os : List Oper} {Q : St → Prop} {R : Ex → St → Prop} {ty : TypeId} {ps : String} {af : Array Edge}
theorem Fre.next {H : Heap} {base i n m : Nat} (h : Fre H (base + i) (base + n) m) : Fre H (base + (i + 1)) (base + n) m := fun id hid => h id (by omega)
theorem Rs.pure {o : Oper} {d : Tmp} {p : PV} (hg : o.guard = none) (hd : o.dst = some d) (hlt : Nat.blt d sz = true) (hc : cls cfg cur o = .pure) (hcal : callee? o.op = none)
    (h : ∀ env, Cv env L → aopPure cfg env o = some p) (k : Rs cfg cur ops n sz os (i + 1) ((d, p) :: L) M Q) : Rs cfg cur ops n sz (o :: os) i L M Q := by
  intro base env H m hn hm h1 h2 h3
  simp only [List.length_cons] at hn
  refine Ro.step (s' := ⟨env.put d p, H, m, sz⟩) ?_ (k base _ H m (by omega) hm (h1.put d p) h2 h3.next)
  have hlt : d < sz := Nat.le_of_ble_eq_true hlt
  unfold stepA effA wantA
  rw [hg]
  dsimp only
  rw [hc]
  dsimp only
  unfold effPure
  rw [hcal]
  dsimp only
  rw [h env h1]
  dsimp only
  unfold setD
  rw [hd]
  dsimp only
  rw [if_pos hlt]
def yl (L : Fr) (ops : Array Oper) (j : Nat) : Option (Nat × Bool) :=
  match ops[j]? with
  | some o => match o.dst with
    | some d => match lk L d with
      | some (.lit (.bool b)) => some (d, b)
      | _ => none
    | none => none
  | none => none
theorem yl_ok {env : Env} (h : Cv env L) {j d : Nat} {b : Bool} (e : yl L ops j = some (d, b)) : yieldA env ops j = some b ∧ lk L d = some (.lit (.bool b)) := by
  unfold yl at e
  unfold yieldA
  split at e
  · rename_i o ho
    split at e
    · rename_i d' hd
      split at e
      · rename_i b' hl
        cases e
        rw [ho]
        dsimp only
        rw [hd]
        dsimp only
        rw [h _ _ hl]
        exact ⟨rfl, hl⟩
      · cases e
    · cases e
  · cases e
theorem strip_eff {X : Run} {base : Nat} {env : Env} {H : Heap} {m : Nat} {d : Option Tmp} {op : Op} {w : Nat × Bool} (h : wantA env ops ⟨d, op, ty, ps, af, some w⟩ = true) :
    effA cfg X cur ops base i ⟨d, op, ty, ps, af, some w⟩ env H m = effA cfg X cur ops base i ⟨d, op, ty, ps, af, none⟩ env H m := by
  unfold effA
  rw [h]
  rfl
theorem Cv.lit {env : Env} (h : Cv env L) {d : Nat} {p : PV} (e : lk L d = some p) : Cv env ((d, p) :: L) := by
  intro t q hq
  unfold lk at hq
  split at hq
  · rename_i hb
    cases hq
    rw [← Nat.eq_of_beq_eq_true hb]
    exact h _ _ e
  · exact h _ _ hq
theorem Rs.guardT {d : Option Tmp} {op : Op} {j t : Nat} {w : Bool} (hy : yl L ops j = some (t, w)) (k : Rs cfg cur ops n sz (⟨d, op, ty, ps, af, none⟩ :: os) i L M Q) : Rs cfg cur ops n sz (⟨d, op, ty, ps, af, some (j, w)⟩ :: os) i L M Q := by
  intro base env H m hn hm h1 h2 h3
  obtain ⟨kk, s', hr, hq⟩ := k base env H m hn hm h1 h2 h3
  refine ⟨kk, s', ?_, hq⟩
  have hw : wantA env ops ⟨d, op, ty, ps, af, some (j, w)⟩ = true := by
    unfold wantA
    dsimp only
    rw [(yl_ok h1 hy).1]
    simp
  unfold runOps at hr ⊢
  unfold stepA at hr ⊢
  rw [strip_eff hw]
  exact hr
def putO (d : Option Tmp) (p : PV) (L : Fr) : Fr := match d with | some t => (t, p) :: L | none => L
theorem Rs.guardF {d : Option Tmp} {op : Op} {j t : Nat} {w b : Bool} (hy : yl L ops j = some (t, b)) (hb : (b == w) = false) (hlt : (match d with | some t => Nat.blt t sz | none => true) = true) (k : Rs cfg cur ops n sz os (i + 1) (putO d undefP L) M Q) : Rs cfg cur ops n sz (⟨d, op, ty, ps, af, some (j, w)⟩ :: os) i L M Q := by
  intro base env H m hn hm h1 h2 h3
  simp only [List.length_cons] at hn
  have hw : wantA env ops ⟨d, op, ty, ps, af, some (j, w)⟩ = false := by
    unfold wantA
    dsimp only
    rw [(yl_ok h1 hy).1]
    exact hb
  cases d with
  | none =>
    refine Ro.step (s' := ⟨env, H, m, sz⟩) ?_ (k base _ H m (by omega) hm h1 h2 h3.next)
    unfold stepA effA
    rw [hw]
    rfl
  | some d =>
    refine Ro.step (s' := ⟨env.put d undefP, H, m, sz⟩) ?_ (k base _ H m (by omega) hm (h1.put d undefP) h2 h3.next)
    have hlt : d < sz := Nat.le_of_ble_eq_true hlt
    unfold stepA effA
    rw [hw]
    dsimp only
    unfold setD
    dsimp only
    rw [if_pos hlt]
def ylU (L : Fr) (ops : Array Oper) (j : Nat) : Bool :=
  match ops[j]? with
  | some o => match o.dst with
    | some d => match lk L d with
      | some (.tup []) => true
      | _ => false
    | none => false
  | none => false
theorem ylU_ok {env : Env} (h : Cv env L) {j : Nat} (e : ylU L ops j = true) : yieldA env ops j = none := by
  unfold ylU at e
  unfold yieldA
  split at e
  · rename_i o ho
    split at e
    · rename_i d hd
      split at e
      · rename_i hl
        rw [ho]
        dsimp only
        rw [hd]
        dsimp only
        rw [h _ _ hl]
      · cases e
    · cases e
  · cases e
theorem Rs.guardU {d : Option Tmp} {op : Op} {j : Nat} {w : Bool} (hy : ylU L ops j = true) (hlt : (match d with | some t => Nat.blt t sz | none => true) = true) (k : Rs cfg cur ops n sz os (i + 1) (putO d undefP L) M Q) : Rs cfg cur ops n sz (⟨d, op, ty, ps, af, some (j, w)⟩ :: os) i L M Q := by
  intro base env H m hn hm h1 h2 h3
  simp only [List.length_cons] at hn
  have hw : wantA env ops ⟨d, op, ty, ps, af, some (j, w)⟩ = false := by
    unfold wantA
    dsimp only
    rw [ylU_ok h1 hy]
  cases d with
  | none =>
    refine Ro.step (s' := ⟨env, H, m, sz⟩) ?_ (k base _ H m (by omega) hm h1 h2 h3.next)
    unfold stepA effA
    rw [hw]
    rfl
  | some d =>
    refine Ro.step (s' := ⟨env.put d undefP, H, m, sz⟩) ?_ (k base _ H m (by omega) hm (h1.put d undefP) h2 h3.next)
    have hlt : d < sz := Nat.le_of_ble_eq_true hlt
    unfold stepA effA
    rw [hw]
    dsimp only
    unfold setD
    dsimp only
    rw [if_pos hlt]
theorem Rs.guardU1 {d : Tmp} {op : Op} {j : Nat} {w : Bool} (hy : ylU L ops j = true) (hlt : Nat.blt d sz = true) (k : Rs cfg cur ops n sz os (i + 1) ((d, undefP) :: L) M Q) : Rs cfg cur ops n sz (⟨some d, op, ty, ps, af, some (j, w)⟩ :: os) i L M Q := Rs.guardU hy hlt k
theorem Rs.guardF1 {d : Tmp} {op : Op} {j t : Nat} {w b : Bool} (hy : yl L ops j = some (t, b)) (hb : (b == w) = false) (hlt : Nat.blt d sz = true) (k : Rs cfg cur ops n sz os (i + 1) ((d, undefP) :: L) M Q) : Rs cfg cur ops n sz (⟨some d, op, ty, ps, af, some (j, w)⟩ :: os) i L M Q := Rs.guardF hy hb hlt k
theorem Rs.guard {d : Option Tmp} {op : Op} {j t : Nat} {w b : Bool} (hy : yl L ops j = some (t, b)) (hlt : (match d with | some t => Nat.blt t sz | none => true) = true)
    (k1 : b = w → Rs cfg cur ops n sz (⟨d, op, ty, ps, af, none⟩ :: os) i ((t, .lit (.bool w)) :: L) M Q)
    (k2 : b = !w → Rs cfg cur ops n sz os (i + 1) (putO d undefP ((t, .lit (.bool !w)) :: L)) M Q) : Rs cfg cur ops n sz (⟨d, op, ty, ps, af, some (j, w)⟩ :: os) i L M Q := by
  intro base env H m hn hm h1 h2 h3
  have hl := (yl_ok h1 hy).2
  have hup : ∀ b', b = b' → Cv env ((t, .lit (.bool b')) :: L) ∧ yl ((t, .lit (.bool b')) :: L) ops j = some (t, b') := by
    rintro b' rfl
    refine ⟨h1.lit hl, ?_⟩
    have e := hy
    unfold yl at e ⊢
    split at e
    · rename_i o ho
      split at e
      · rename_i d' hd
        split at e
        · cases e
          unfold lk
          rw [Nat.beq_refl]
        · cases e
      · cases e
    · cases e
  by_cases hb : b = w
  · obtain ⟨c1, c2⟩ := hup w hb
    exact Rs.guardT (L := (t, .lit (.bool w)) :: L) c2 (k1 hb) base env H m hn hm c1 h2 h3
  · have hb : b = !w := by cases b <;> cases w <;> simp_all
    obtain ⟨c1, c2⟩ := hup (!w) hb
    exact Rs.guardF (L := (t, .lit (.bool !w)) :: L) c2 (by cases w <;> rfl) hlt (k2 hb) base env H m hn hm c1 h2 h3
theorem Rs.guard1 {d : Tmp} {op : Op} {j t : Nat} {w w' b : Bool} (hy : yl L ops j = some (t, b)) (hlt : Nat.blt d sz = true) (hw : (!w) = w')
    (k1 : b = w → Rs cfg cur ops n sz (⟨some d, op, ty, ps, af, none⟩ :: os) i ((t, .lit (.bool w)) :: L) M Q)
    (k2 : b = w' → Rs cfg cur ops n sz os (i + 1) ((d, undefP) :: (t, .lit (.bool w')) :: L) M Q) : Rs cfg cur ops n sz (⟨some d, op, ty, ps, af, some (j, w)⟩ :: os) i L M Q := by
  subst hw
  exact Rs.guard hy hlt k1 k2
theorem Rs.tell {t : Nat} {p : PV} (e : lk L t = some p) (k : Rs cfg cur ops n sz os i ((t, p) :: L) M Q) : Rs cfg cur ops n sz os i L M Q :=
  fun base env H m hn hm h1 h2 h3 => k base env H m hn hm (h1.lit e) h2 h3
theorem Ps.tell {t : Nat} {p : PV} (e : lk L t = some p) (k : Ps sz ((t, p) :: L) M Q) : Ps sz L M Q :=
  fun env H m h1 h2 h3 => k env H m (h1.lit e) h2 h3
theorem Ps.if {t : Nat} {a b : Code} {c : Bool} (hc : lk L t = some (.lit (.bool c))) (h1 : c = true → Ps sz ((t, .lit (.bool true)) :: L) M (fun s => Ev cfg cur a s R)) (h2 : c = false → Ps sz ((t, .lit (.bool false)) :: L) M (fun s => Ev cfg cur b s R)) :
    Ps sz L M (fun s => Ev cfg cur (.cond (.tmp t) a b) s R) :=
  Ps.cond (t := c) hc (fun h => Ps.tell (by rw [hc, h]) (h1 h)) (fun h => Ps.tell (by rw [hc, h]) (h2 h))
theorem Ps.ifT {t : Nat} {a b : Code} (hc : lk L t = some (.lit (.bool true))) (h1 : Ps sz L M (fun s => Ev cfg cur a s R)) : Ps sz L M (fun s => Ev cfg cur (.cond (.tmp t) a b) s R) :=
  Ps.cond (t := true) hc (fun _ => h1) (fun h => by cases h)
theorem Ps.ifF {t : Nat} {a b : Code} (hc : lk L t = some (.lit (.bool false))) (h1 : Ps sz L M (fun s => Ev cfg cur b s R)) : Ps sz L M (fun s => Ev cfg cur (.cond (.tmp t) a b) s R) :=
  Ps.cond (t := false) hc (fun h => by cases h) (fun _ => h1)
theorem Rs.move {d : Tmp} {x : Operand} {p : PV} (hlt : Nat.blt d sz = true) (hx : evl cfg L x = some p) (k : Rs cfg cur ops n sz os (i + 1) ((d, p) :: L) M Q) :
    Rs cfg cur ops n sz (⟨some d, .move x, ty, ps, af, none⟩ :: os) i L M Q := Rs.pure rfl rfl hlt rfl rfl (fun env h => evl_ok h hx) k
theorem Rs.assign {d : Tmp} {x : Operand} {p : PV} (hlt : Nat.blt d sz = true) (hx : evl cfg L x = some p) (k : Rs cfg cur ops n sz os (i + 1) ((d, p) :: L) M Q) :
    Rs cfg cur ops n sz (⟨some d, .assign x, ty, ps, af, none⟩ :: os) i L M Q := Rs.pure rfl rfl hlt rfl rfl (fun env h => evl_ok h hx) k
theorem lit2 {env : Env} {o : Oper} {x y : Operand} {p q : PV} {a b v : Value} (hs : isSel o.op = false) (ho : o.op.operands.toList = [x, y]) (hx : evO cfg env x = some p) (hp : toVal p = some a) (hy : evO cfg env y = some q) (hq : toVal q = some b)
    (h : ∀ ρ : Operand → Value, ρ x = a → ρ y = b → pureRun cfg.P (execOp ρ o) = some (.value v)) : litRun cfg env o = some (ofVal v) := by
  unfold litRun
  rw [hs, ho]
  dsimp only
  have h1 : litOk cfg env [x, y] = true := by simp only [litOk, hx, hp, hy, hq]
  rw [h1]
  dsimp only
  rw [h (litOf cfg env) (by unfold litOf; rw [hx]; dsimp only; rw [hp]) (by unfold litOf; rw [hy]; dsimp only; rw [hq])]
theorem lit1 {env : Env} {o : Oper} {x : Operand} {p : PV} {a v : Value} (hs : isSel o.op = false) (ho : o.op.operands.toList = [x]) (hx : evO cfg env x = some p) (hp : toVal p = some a)
    (h : ∀ ρ : Operand → Value, ρ x = a → pureRun cfg.P (execOp ρ o) = some (.value v)) : litRun cfg env o = some (ofVal v) := by
  unfold litRun
  rw [hs, ho]
  dsimp only
  have h1 : litOk cfg env [x] = true := by simp only [litOk, hx, hp]
  rw [h1]
  dsimp only
  rw [h (litOf cfg env) (by unfold litOf; rw [hx]; dsimp only; rw [hp])]
theorem Rs.bin {d : Tmp} {op : BinOp} {t t2 : TypeId} {x y : Operand} {p q r : PV} {a b v : Value} (hlt : Nat.blt d sz = true) (hx : evl cfg L x = some p) (hp : toVal p = some a) (hy : evl cfg L y = some q) (hq : toVal q = some b)
    (h : pureRun cfg.P (do eqGuard op t x y a b; binOp op t a b) = some v) (hr : ofVal v = r) (k : Rs cfg cur ops n sz os (i + 1) ((d, r) :: L) M Q) : Rs cfg cur ops n sz (⟨some d, .binOp op t x y t2, ty, ps, af, none⟩ :: os) i L M Q := by
  refine Rs.pure rfl rfl hlt rfl rfl (fun env hE => ?_) k
  unfold aopPure
  dsimp only
  rw [lit2 (v := v) rfl rfl (evl_ok hE hx) hp (evl_ok hE hy) hq ?_]
  · dsimp only; rw [hr]
  · rintro ρ rfl rfl
    show pureRun cfg.P ((eqGuard op t x y (ρ x) (ρ y) >>= fun _ => binOp op t (ρ x) (ρ y)) >>= fun r => Pure.pure (Next.value r)) = _
    rw [pureRun_bind]
    have h' : pureRun cfg.P (eqGuard op t x y (ρ x) (ρ y) >>= fun _ => binOp op t (ρ x) (ρ y)) = some v := h
    rw [h']
    rfl
theorem Rs.arith {d : Tmp} {op : BinOp} {t t2 : TypeId} {x y : Operand} {ik : IntKind} {a b c : Int} (hlt : Nat.blt d sz = true) (hx : evl cfg L x = some (.lit (.int ik a))) (hy : evl cfg L y = some (.lit (.int ik b)))
    (h : (match op with | .add => ik.wrap (a + b) = c | .sub => ik.wrap (a - b) = c | .mul => ik.wrap (a * b) = c | _ => False)) (k : Rs cfg cur ops n sz os (i + 1) ((d, .lit (.int ik c)) :: L) M Q) : Rs cfg cur ops n sz (⟨some d, .binOp op t x y t2, ty, ps, af, none⟩ :: os) i L M Q := by
  refine Rs.bin (v := .int ik c) hlt hx rfl hy rfl ?_ rfl k
  cases op <;> simp only at h <;> first
    | exact h.elim
    | (subst h; cases ik <;> rfl)
theorem Rs.un {d : Tmp} {op : UnOp} {t : TypeId} {x : Operand} {p r : PV} {a v : Value} (hlt : Nat.blt d sz = true) (hx : evl cfg L x = some p) (hp : toVal p = some a)
    (h : pureRun cfg.P (Op.unary op a) = some v) (hr : ofVal v = r) (k : Rs cfg cur ops n sz os (i + 1) ((d, r) :: L) M Q) : Rs cfg cur ops n sz (⟨some d, .unOp op t x, ty, ps, af, none⟩ :: os) i L M Q := by
  refine Rs.pure rfl rfl hlt rfl rfl (fun env hE => ?_) k
  unfold aopPure
  dsimp only
  rw [lit1 (v := v) rfl rfl (evl_ok hE hx) hp ?_, hr]
  rintro ρ rfl
  show pureRun cfg.P (Op.unary op (ρ x) >>= fun r => Pure.pure (Next.value r)) = _
  rw [pureRun_bind, h]
  rfl
theorem Rs.conv {d : Tmp} {s t : TypeId} {x : Operand} {p r : PV} {a v : Value} (hlt : Nat.blt d sz = true) (h1 : isSliceT cfg.P s = false) (h2 : isSliceT cfg.P t = false) (hx : evl cfg L x = some p) (hp : toVal p = some a)
    (h : pureRun cfg.P (convert s t a) = some v) (hr : ofVal v = r) (k : Rs cfg cur ops n sz os (i + 1) ((d, r) :: L) M Q) : Rs cfg cur ops n sz (⟨some d, .convert s t x, ty, ps, af, none⟩ :: os) i L M Q := by
  refine Rs.pure rfl rfl hlt ?_ rfl (fun env hE => ?_) k
  · simp [cls, h1, h2]
  unfold aopPure
  dsimp only
  rw [h2]
  rw [lit1 (v := v) rfl rfl (evl_ok hE hx) hp ?_, hr]
  · rfl
  rintro ρ rfl
  show pureRun cfg.P (convert s t (ρ x) >>= fun r => Pure.pure (Next.value r)) = _
  rw [pureRun_bind, h]
  rfl
theorem Rs.pickT {d : Tmp} {c a b : Operand} {p q : PV} (hlt : Nat.blt d sz = true) (hc : evl cfg L c = some (.lit (.bool true))) (ha : evl cfg L a = some p) (hb : evl cfg L b = some q) (k : Rs cfg cur ops n sz os (i + 1) ((d, p) :: L) M Q) :
    Rs cfg cur ops n sz (⟨some d, .pick c a b, ty, ps, af, none⟩ :: os) i L M Q :=
  Rs.pure rfl rfl hlt rfl rfl (fun env hE => by unfold aopPure; dsimp only; rw [evl_ok hE hc, evl_ok hE ha, evl_ok hE hb]) k
theorem Rs.pickF {d : Tmp} {c a b : Operand} {p q : PV} (hlt : Nat.blt d sz = true) (hc : evl cfg L c = some (.lit (.bool false))) (ha : evl cfg L a = some p) (hb : evl cfg L b = some q) (k : Rs cfg cur ops n sz os (i + 1) ((d, q) :: L) M Q) :
    Rs cfg cur ops n sz (⟨some d, .pick c a b, ty, ps, af, none⟩ :: os) i L M Q :=
  Rs.pure rfl rfl hlt rfl rfl (fun env hE => by unfold aopPure; dsimp only; rw [evl_ok hE hc, evl_ok hE ha, evl_ok hE hb]) k
theorem Rs.box {d : Tmp} {t : TypeId} {x : Operand} {p : PV} {l : List PV} (hlt : Nat.blt d sz = true) (ho : cfg.own cur d = false) (hx : evl cfg L x = some p) (hd : deepB p = true) (hl : p.cells = l) (k : Rs cfg cur ops n sz os (i + 1) ((d, .dptr l 0) :: L) M Q) :
    Rs cfg cur ops n sz (⟨some d, .box t x, ty, ps, af, none⟩ :: os) i L M Q := by
  refine Rs.pure rfl rfl hlt ?_ rfl (fun env hE => ?_) k
  · simp [cls, ownDst, ho]
  unfold aopPure
  dsimp only
  rw [evl_ok hE hx]
  dsimp only
  rw [hd, if_pos rfl, hl]
theorem Rs.extract {d : Tmp} {x : Operand} {j : Nat} {l : List PV} {p : PV} (hlt : Nat.blt d sz = true) (hx : evl cfg L x = some (.tup l)) (hl : l[j]? = some p) (k : Rs cfg cur ops n sz os (i + 1) ((d, p) :: L) M Q) :
    Rs cfg cur ops n sz (⟨some d, .extract x j, ty, ps, af, none⟩ :: os) i L M Q :=
  Rs.pure rfl rfl hlt rfl rfl (fun env hE => by unfold aopPure; dsimp only; rw [evl_ok hE hx]; exact hl) k
def fieldOf (P : Program) (t : TypeId) (j : Nat) : Option (Nat × TypeId × Bool) :=
  match P.underlying t with
  | some (.struct fields) => match fields[j]? with
    | some f => match szO P f.type with
      | some 0 => some (f.offset, f.type, false)
      | some _ => some (f.offset, f.type, true)
      | none => none
    | none => none
  | _ => none
theorem fieldOf_ok {P : Program} {t : TypeId} {j o : Nat} {u : TypeId} {b : Bool} (h : fieldOf P t j = some (o, u, b)) : ∃ fields f m, P.underlying t = some (.struct fields) ∧ fields[j]? = some f ∧ f.offset = o ∧ f.type = u ∧ szO P f.type = some m ∧ (b = true → m ≠ 0) := by
  unfold fieldOf at h
  split at h
  · rename_i fields hu
    split at h
    · rename_i f hf
      split at h <;> cases h
      · rename_i h0; exact ⟨_, f, 0, hu, hf, rfl, rfl, h0, fun e => by cases e⟩
      · rename_i m hm hs; exact ⟨_, f, m, hu, hf, rfl, rfl, hs, fun _ e => hm e⟩
    · cases h
  · cases h
theorem Rs.fieldAddrD {d : Tmp} {t : TypeId} {x : Operand} {j o off off' : Nat} {u : TypeId} {l : List PV} (hlt : Nat.blt d sz = true) (hf : fieldOf cfg.P t j = some (o, u, true)) (hx : evl cfg L x = some (.dptr l off)) (ho : Nat.add off o = off') (k : Rs cfg cur ops n sz os (i + 1) ((d, .dptr l off') :: L) M Q) :
    Rs cfg cur ops n sz (⟨some d, .fieldAddr t x j, ty, ps, af, none⟩ :: os) i L M Q := by
  refine Rs.pure rfl rfl hlt rfl rfl (fun env hE => ?_) k
  obtain ⟨fields, f, m, h1, h2, rfl, _, h4, h5⟩ := fieldOf_ok hf
  have h5 := h5 rfl
  unfold aopPure fieldAddrA
  dsimp only
  rw [h1]; dsimp only; rw [h2]; dsimp only; rw [h4]
  cases m with
  | zero => exact absurd rfl h5
  | succ m => rw [evl_ok hE hx]; dsimp only; rw [← ho]; rfl
theorem Rs.fieldAddrP {d : Tmp} {t : TypeId} {x : Operand} {j o off off' id v ix : Nat} {u : TypeId} (hlt : Nat.blt d sz = true) (hf : fieldOf cfg.P t j = some (o, u, true)) (hx : evl cfg L x = some (.ptr id v ix off)) (ho : Nat.add off o = off') (k : Rs cfg cur ops n sz os (i + 1) ((d, .ptr id v ix off') :: L) M Q) :
    Rs cfg cur ops n sz (⟨some d, .fieldAddr t x j, ty, ps, af, none⟩ :: os) i L M Q := by
  refine Rs.pure rfl rfl hlt rfl rfl (fun env hE => ?_) k
  obtain ⟨fields, f, m, h1, h2, rfl, _, h4, h5⟩ := fieldOf_ok hf
  have h5 := h5 rfl
  unfold aopPure fieldAddrA
  dsimp only
  rw [h1]; dsimp only; rw [h2]; dsimp only; rw [h4]
  cases m with
  | zero => exact absurd rfl h5
  | succ m => rw [evl_ok hE hx]; dsimp only; rw [← ho]; rfl
theorem Rs.field {d : Tmp} {t : TypeId} {x : Operand} {j o : Nat} {u : TypeId} {b : Bool} {l : List PV} {p : PV} (hlt : Nat.blt d sz = true) (hf : fieldOf cfg.P t j = some (o, u, b)) (hx : evl cfg L x = some (.agg l)) (hp : partO cfg.P u l o = some p) (k : Rs cfg cur ops n sz os (i + 1) ((d, p) :: L) M Q) :
    Rs cfg cur ops n sz (⟨some d, .field t x j, ty, ps, af, none⟩ :: os) i L M Q := by
  refine Rs.pure rfl rfl hlt rfl rfl (fun env hE => ?_) k
  obtain ⟨fields, f, m, h1, h2, rfl, rfl, h4, h5⟩ := fieldOf_ok hf
  unfold aopPure fieldA
  dsimp only
  rw [h1, evl_ok hE hx]; dsimp only; rw [h2]; dsimp only; rw [hp]
theorem Rs.loadD {d : Tmp} {t : TypeId} {x : Operand} {off : Nat} {l : List PV} {p : PV} (hlt : Nat.blt d sz = true) (hc : cls cfg cur ⟨some d, .load t x, ty, ps, af, none⟩ = .pure) (hx : evl cfg L x = some (.dptr l off)) (hp : partO cfg.P t l off = some p) (k : Rs cfg cur ops n sz os (i + 1) ((d, p) :: L) M Q) :
    Rs cfg cur ops n sz (⟨some d, .load t x, ty, ps, af, none⟩ :: os) i L M Q := by
  refine Rs.pure rfl rfl hlt hc rfl (fun env hE => ?_) k
  unfold aopPure
  dsimp only
  rw [evl_ok hE hx]
  exact hp
theorem Rs.nilCheck {d : Tmp} {x : Operand} {p : PV} (hlt : Nat.blt d sz = true) (hx : evl cfg L x = some p) (hp : (match p with | .ptr .. | .dptr .. | .clo .. => true | _ => false) = true) (k : Rs cfg cur ops n sz os (i + 1) ((d, p) :: L) M Q) :
    Rs cfg cur ops n sz (⟨some d, .nilCheck x, ty, ps, af, none⟩ :: os) i L M Q := by
  refine Rs.pure rfl rfl hlt rfl rfl (fun env hE => ?_) k
  unfold aopPure
  dsimp only
  rw [evl_ok hE hx]
  split at hp <;> first | rfl | cases hp
theorem Rs.makeFunc {d : Tmp} {f : FuncId} {fs cs : Array Operand} {a l : List PV} (hlt : Nat.blt d sz = true) (ha : evls cfg L fs.toList = some a) (hl : evls cfg L cs.toList = some l) (k : Rs cfg cur ops n sz os (i + 1) ((d, .clo f a l) :: L) M Q) :
    Rs cfg cur ops n sz (⟨some d, .makeFunc (.func f) fs cs, ty, ps, af, none⟩ :: os) i L M Q :=
  Rs.pure rfl rfl hlt rfl rfl (fun env hE => by unfold aopPure; dsimp only; rw [evls_ok hE ha, evls_ok hE hl]) k
theorem Rs.lenD {d : Tmp} {x : Operand} {t : TypeId} {s : Nat} {l : List PV} {c : Option Nat} (hlt : Nat.blt d sz = true) (ht : isSliceT cfg.P t = true) (hm : isMapT cfg.P t = false) (hx : evl cfg L x = some (.dsl s l c)) (k : Rs cfg cur ops n sz os (i + 1) ((d, .lit (.int .i64 l.length)) :: L) M Q) :
    Rs cfg cur ops n sz (⟨some d, .call ⟨.builtin .len, #[x], #[t]⟩, ty, ps, af, none⟩ :: os) i L M Q := by
  refine Rs.pure rfl rfl hlt ?_ rfl (fun env hE => ?_) k
  · simp [cls, hm]
  · unfold aopPure
    dsimp only
    rw [evl_ok hE hx]
    show (if isSliceT cfg.P t then _ else _) = _
    rw [ht, if_pos rfl]
theorem Rs.lenO {d : Tmp} {x : Operand} {t : TypeId} {id v s off len : Nat} {c : Option Nat} (hlt : Nat.blt d sz = true) (ht : isSliceT cfg.P t = true) (hm : isMapT cfg.P t = false) (hx : evl cfg L x = some (.own id v s off len c)) (k : Rs cfg cur ops n sz os (i + 1) ((d, .lit (.int .i64 len)) :: L) M Q) :
    Rs cfg cur ops n sz (⟨some d, .call ⟨.builtin .len, #[x], #[t]⟩, ty, ps, af, none⟩ :: os) i L M Q := by
  refine Rs.pure rfl rfl hlt ?_ rfl (fun env hE => ?_) k
  · simp [cls, hm]
  · unfold aopPure
    dsimp only
    rw [evl_ok hE hx]
    show (if isSliceT cfg.P t then _ else _) = _
    rw [ht, if_pos rfl]
theorem Rs.lenL {d : Tmp} {x : Operand} {t : TypeId} {a v : Value} {r : PV} (hlt : Nat.blt d sz = true) (hm : isMapT cfg.P t = false) (hx : evl cfg L x = some (.lit a)) (h : pureRun cfg.P (Builtin.len_ #[t] ty #[a]) = some v) (hr : ofVal v = r) (k : Rs cfg cur ops n sz os (i + 1) ((d, r) :: L) M Q) :
    Rs cfg cur ops n sz (⟨some d, .call ⟨.builtin .len, #[x], #[t]⟩, ty, ps, af, none⟩ :: os) i L M Q := by
  refine Rs.pure rfl rfl hlt ?_ rfl (fun env hE => ?_) k
  · simp [cls, hm]
  · unfold aopPure
    dsimp only
    rw [evl_ok hE hx]
    dsimp only
    refine (lit1 (v := v) rfl rfl (evl_ok hE hx) rfl ?_).trans (by rw [hr])
    rintro ρ rfl
    simp only [execOp, resolve, invoke, builtin, bind_pure_comp, List.map_toArray, List.map_cons, List.map_nil, pure_bind]
    show pureRun cfg.P (Builtin.len_ #[t] ty #[ρ x] >>= fun r => Pure.pure (Next.value r)) = _
    rw [pureRun_bind, h]
    rfl
theorem Rs.indexA {d : Tmp} {t e : TypeId} {x y : Operand} {s j m off : Nat} {jk : IntKind} {ji : Int} {l : List PV} (hlt : Nat.blt d sz = true) (hu : cfg.P.underlying t = some (.array m e)) (hs : szO cfg.P e = some s) (hx : evl cfg L x = some (.dptr l off)) (hy : evl cfg L y = some (.lit (.int jk ji))) (hj : ji = (j : Int)) (hm : j < m) (k : Rs cfg cur ops n sz os (i + 1) ((d, .dptr l (off + j * s)) :: L) M Q) :
    Rs cfg cur ops n sz (⟨some d, .indexAddr t x y, ty, ps, af, none⟩ :: os) i L M Q := by
  refine Rs.pure rfl rfl hlt rfl rfl (fun env hE => ?_) k
  have hj : ji = Int.ofNat j := hj
  subst hj
  unfold aopPure indexAddrA
  dsimp only
  rw [evl_ok hE hy]
  dsimp only [natLit]
  rw [hu]
  dsimp only
  rw [hs]
  dsimp only
  rw [if_pos hm, evl_ok hE hx]
theorem Rs.indexD {d : Tmp} {t e : TypeId} {x y : Operand} {s j : Nat} {jk : IntKind} {ji : Int} {l lc : List PV} {c : Option Nat} {p : PV} (hlt : Nat.blt d sz = true) (hu : cfg.P.underlying t = some (.slice e)) (hs : szO cfg.P e = some s) (hx : evl cfg L x = some (.dsl s l c)) (hy : evl cfg L y = some (.lit (.int jk ji))) (hj : ji = (j : Int)) (hl : l[j]? = some p) (hlc : p.cells = lc) (k : Rs cfg cur ops n sz os (i + 1) ((d, .dptr lc 0) :: L) M Q) :
    Rs cfg cur ops n sz (⟨some d, .indexAddr t x y, ty, ps, af, none⟩ :: os) i L M Q := by
  refine Rs.pure rfl rfl hlt rfl rfl (fun env hE => ?_) k
  have hj : ji = Int.ofNat j := hj
  subst hj
  unfold aopPure indexAddrA
  dsimp only
  rw [evl_ok hE hy]
  dsimp only [natLit]
  rw [hu]
  dsimp only
  rw [hs]
  dsimp only
  rw [evl_ok hE hx]
  dsimp only
  rw [if_pos rfl, hl]
  dsimp only
  rw [hlc]
end Go.Proofs.YthabndifdgafbaaGreatDoor.RV
end
end
section
section
set_option linter.unusedVariables false
namespace Go.Proofs.YthabndifdgafbaaGreatDoor.RV
variable {cfg : Cfg} {cur : FuncId} {sz : Nat} {L : Fr} {M : Mem} {ops : Array Oper} {n i : Nat} {os : List Oper} {Q : St → Prop} {R : Ex → St → Prop} {ty : TypeId} {ps : String} {af : Array Edge}
def evpl (cfg : Cfg) (L : Fr) : List (Nat × Operand) → Option (List (Nat × PV))
  | [] => some []
  | (i, x) :: xs => match evl cfg L x with
    | some p => match evpl cfg L xs with | some ps => some ((i, p) :: ps) | none => none
    | none => none
theorem evpl_ok {env : Env} (h : Cv env L) : ∀ {xs : List (Nat × Operand)} {ps : List (Nat × PV)}, evpl cfg L xs = some ps → evParts cfg env xs = some ps
  | [], ps, e => e
  | (i, x) :: xs, ps, e => by
    unfold evpl at e
    unfold evParts
    split at e
    · rename_i p hp
      rw [evl_ok h hp]
      split at e
      · rename_i q hq
        dsimp only
        rw [evpl_ok h hq]
        exact e
      · cases e
    · cases e
def mkAgg (P : Program) (t : TypeId) (ps : List (Nat × PV)) : Option (List PV) :=
  match zeroO P t, P.underlying t with
  | some z, some (.struct fields) =>
    match sizesOk P fields.toList with
    | true => fillA (placeS P fields) z.cells ps
    | false => none
  | some z, some (.array _ elem) =>
    match szO P elem with
    | some size => fillA (fun i => some (i * size, size)) z.cells ps
    | none => none
  | _, _ => none
theorem Rs.build {d : Tmp} {t : TypeId} {parts : Array (Nat × Operand)} {qs : List (Nat × PV)} {l : List PV} (hlt : Nat.blt d sz = true) (hx : evpl cfg L parts.toList = some qs) (hl : mkAgg cfg.P t qs = some l) (k : Rs cfg cur ops n sz os (i + 1) ((d, .agg l) :: L) M Q) :
    Rs cfg cur ops n sz (⟨some d, .build t parts, ty, ps, af, none⟩ :: os) i L M Q := by
  refine Rs.pure rfl rfl hlt rfl rfl (fun env hE => ?_) k
  unfold aopPure buildA
  dsimp only
  rw [evpl_ok hE hx]
  unfold mkAgg at hl
  split at hl
  · rename_i z fields hz hu
    rw [hz, hu]
    dsimp only
    split at hl
    · rename_i hs; rw [hs]; dsimp only; rw [hl]; rfl
    · cases hl
  · rename_i z m elem hz hu
    rw [hz, hu]
    dsimp only
    split at hl
    · rename_i s hs; rw [hs]; dsimp only; rw [hl]; rfl
    · cases hl
  · cases hl
def snds : List (Nat × PV) → List PV
  | [] => []
  | (_, p) :: r => p :: snds r
theorem snds_eq : ∀ qs : List (Nat × PV), snds qs = qs.map (·.2)
  | [] => rfl
  | (_, p) :: r => by rw [snds, snds_eq r]; rfl
def mkSl (P : Program) (t : TypeId) (len : Nat) (qs : List (Nat × PV)) : Option (Nat × List PV) :=
  match P.underlying t with
  | some (.slice elem) =>
    match szO P elem, zeroO P elem with
    | some s, some z =>
      if qs.map (·.1) = List.range len then
        (if sizesAre s (snds qs) ∧ z.cells.length = s ∧ 0 < s ∧ len * s ≤ 2 ^ 20 then some (s, snds qs) else none)
      else none
    | _, _ => none
  | _ => none
theorem mkSl_ok {env : Env} {t : TypeId} {len : Nat} {parts : List (Nat × Operand)} {qs : List (Nat × PV)} {r : Nat × List PV} (h : evParts cfg env parts = some qs) (e : mkSl cfg.P t len qs = some r) : buildSliceA cfg env t len parts = some r := by
  unfold mkSl at e
  unfold buildSliceA
  rw [h]
  split at e
  · rename_i elem hu
    rw [hu]
    dsimp only
    split at e
    · rename_i s z hs hz
      rw [hs, hz]
      dsimp only
      unfold partsInOrder
      split at e
      · rename_i hr
        rw [if_pos hr]
        dsimp only
        rw [snds_eq] at e
        exact e
      · cases e
    · cases e
  · cases e
theorem Rs.buildSlice {d : Tmp} {t : TypeId} {len s : Nat} {parts : Array (Nat × Operand)} {qs : List (Nat × PV)} {l : List PV} (hlt : Nat.blt d sz = true) (ho : cfg.own cur d = false) (hx : evpl cfg L parts.toList = some qs) (hl : mkSl cfg.P t len qs = some (s, l)) (hd : deepL l = true)
    (k : Rs cfg cur ops n sz os (i + 1) ((d, .dsl s l (some len)) :: L) M Q) : Rs cfg cur ops n sz (⟨some d, .buildSlice t len parts, ty, ps, af, none⟩ :: os) i L M Q := by
  refine Rs.pure rfl rfl hlt (by simp [cls, ownDst, ho]) rfl (fun env hE => ?_) k
  unfold aopPure
  dsimp only
  rw [mkSl_ok (evpl_ok hE hx) hl]
  dsimp only
  rw [hd, if_pos rfl]
theorem Rs.new {o : Oper} {d : Tmp} {pf : Nat → PV} {ob : HObj} (hg : o.guard = none) (hd : o.dst = some d) (hlt : Nat.blt d sz = true) (hc : cls cfg cur o = .new) (hcal : callee? o.op = none)
    (h : ∀ env id, Cv env L → aopNew cfg env o id = some (pf id, ob)) (k : ∀ g, Rs cfg cur ops n sz os (i + 1) ((d, pf g) :: L) ((g, 0, ob) :: M) Q) : Rs cfg cur ops n sz (o :: os) i L M Q := by
  intro base env H m hn hm h1 h2 h3
  simp only [List.length_cons] at hn
  have hf : H.get (base + i) = none := h3 _ (by omega)
  refine Ro.step (s' := ⟨env.put d (pf (base + i)), H.put (base + i) (0, ob), m, sz⟩) ?_ (k (base + i) base _ _ m (by omega) hm (h1.put d _) (h2.new hf 0 ob) ?_)
  · have hlt : d < sz := Nat.le_of_ble_eq_true hlt
    unfold stepA effA wantA
    rw [hg]
    dsimp only
    rw [hc]
    dsimp only
    unfold newOf
    rw [hcal]
    dsimp only
    rw [h env _ h1]
    dsimp only
    rw [hf]
    dsimp only
    unfold setD
    rw [hd]
    dsimp only
    rw [if_pos hlt]
  · intro id hid
    rw [put_get, if_neg (by omega)]
    exact h3 id (by omega)
theorem Rs.alloc {d : Tmp} {t : TypeId} {z : PV} {c : Nat} (hlt : Nat.blt d sz = true) (hz : zeroO cfg.P t = some z) (hc : z.cells.length = c) (k : ∀ g, Rs cfg cur ops n sz os (i + 1) ((d, .ptr g 0 0 0) :: L) ((g, 0, .blk c [z] true) :: M) Q) :
    Rs cfg cur ops n sz (⟨some d, .alloc t, ty, ps, af, none⟩ :: os) i L M Q :=
  Rs.new (pf := fun g => .ptr g 0 0 0) rfl rfl hlt rfl rfl (fun env id hE => by unfold aopNew; dsimp only; rw [hz]; dsimp only; rw [hc]) k
theorem Rs.boxO {d : Tmp} {t : TypeId} {x : Operand} {p : PV} {c : Nat} (hlt : Nat.blt d sz = true) (ho : cfg.own cur d = true) (hx : evl cfg L x = some p) (hc : p.cells.length = c) (k : ∀ g, Rs cfg cur ops n sz os (i + 1) ((d, .ptr g 0 0 0) :: L) ((g, 0, .blk c [p] true) :: M) Q) :
    Rs cfg cur ops n sz (⟨some d, .box t x, ty, ps, af, none⟩ :: os) i L M Q :=
  Rs.new (pf := fun g => .ptr g 0 0 0) rfl rfl hlt (by simp [cls, ownDst, ho]) rfl (fun env id hE => by unfold aopNew; dsimp only; rw [evl_ok hE hx]; dsimp only; rw [hc]) k
theorem Rs.read {o : Oper} {d : Tmp} {p : PV} (hg : o.guard = none) (hd : o.dst = some d) (hlt : Nat.blt d sz = true) (hc : cls cfg cur o = .read) (hcal : callee? o.op = none)
    (h : ∀ env H, Cv env L → CvH H M → aopRead cfg env H o = some p) (k : Rs cfg cur ops n sz os (i + 1) ((d, p) :: L) M Q) : Rs cfg cur ops n sz (o :: os) i L M Q := by
  intro base env H m hn hm h1 h2 h3
  simp only [List.length_cons] at hn
  refine Ro.step (s' := ⟨env.put d p, H, m, sz⟩) ?_ (k base _ H m (by omega) hm (h1.put d p) h2 h3.next)
  have hlt : d < sz := Nat.le_of_ble_eq_true hlt
  unfold stepA effA wantA
  rw [hg]
  dsimp only
  rw [hc]
  dsimp only
  unfold effRead
  rw [hcal]
  dsimp only
  rw [h env H h1 h2]
  dsimp only
  unfold setD
  rw [hd]
  dsimp only
  rw [if_pos hlt]
def partE (P : Program) (t : TypeId) (l : List PV) (ix off : Nat) : Option PV := match l[ix]? with | some e => partO P t e.cells off | none => none
theorem Rs.loadP {d : Tmp} {t : TypeId} {x : Operand} {id v ix off s : Nat} {l : List PV} {b : Bool} {p : PV} (j : Nat) (hlt : Nat.blt d sz = true) (hc : cls cfg cur ⟨some d, .load t x, ty, ps, af, none⟩ = .read) (hx : evl cfg L x = some (.ptr id v ix off)) (hj : M[j]? = some (id, v, .blk s l b)) (hp : partE cfg.P t l ix off = some p)
    (k : Rs cfg cur ops n sz os (i + 1) ((d, p) :: L) M Q) : Rs cfg cur ops n sz (⟨some d, .load t x, ty, ps, af, none⟩ :: os) i L M Q := by
  refine Rs.read rfl rfl hlt hc rfl (fun env H hE hH => ?_) k
  unfold aopRead
  dsimp only
  rw [evl_ok hE hx]
  dsimp only [loadA]
  rw [hH.obj hj]
  exact hp
theorem Rs.write {o : Oper} {p : PV} {M' : Mem} (hg : o.guard = none) (hlt : (match o.dst with | some d => Nat.blt d sz | none => true) = true) (hc : cls cfg cur o = .write)
    (h : ∀ env H fr, Cv env L → CvH H M → H.get fr = none → ∃ δ, aopWrite cfg env H o fr = some (p, δ) ∧ CvH (applyD H δ) M' ∧ ∀ id, id ≠ fr → H.get id = none → (applyD H δ).get id = none)
    (k : Rs cfg cur ops n sz os (i + 1) (putO o.dst p L) M' Q) : Rs cfg cur ops n sz (o :: os) i L M Q := by
  intro base env H m hn hm h1 h2 h3
  simp only [List.length_cons] at hn
  have hf : H.get (base + i) = none := h3 _ (by omega)
  obtain ⟨δ, ha, hcv, hfr⟩ := h env H (base + i) h1 h2 hf
  have he : effA cfg noX cur ops base i o env H m = some (p, applyD H δ, m) := by
    unfold effA wantA
    rw [hg]
    dsimp only
    rw [hc]
    dsimp only
    unfold effWrite
    rw [hf]
    dsimp only
    rw [ha]
  have hfre : Fre (applyD H δ) (base + (i + 1)) (base + n) m := fun id hid => hfr id (by omega) (h3 id (by omega))
  cases hd : o.dst with
  | none =>
    rw [hd] at k
    refine Ro.step (s' := ⟨env, applyD H δ, m, sz⟩) ?_ (k base _ _ m (by omega) hm h1 hcv hfre)
    unfold stepA
    dsimp only
    rw [he]
    dsimp only
    unfold setD
    rw [hd]
  | some d =>
    rw [hd] at k hlt
    refine Ro.step (s' := ⟨env.put d p, applyD H δ, m, sz⟩) ?_ (k base _ _ m (by omega) hm (h1.put d p) hcv hfre)
    have hlt : d < sz := Nat.le_of_ble_eq_true hlt
    unfold stepA
    dsimp only
    rw [he]
    dsimp only
    unfold setD
    rw [hd]
    dsimp only
    rw [if_pos hlt]
def storeB (P : Program) (t : TypeId) (l : List PV) (ix off : Nat) (v : PV) : Option (List PV) :=
  match szO P t with
  | some n => match l[ix]? with
    | some e =>
      if v.cells.length = n ∧ off + n ≤ e.cells.length ∧ scalars v.cells then
        match e with
        | .agg es => some (l.set ix (.agg (splice es off v.cells)))
        | _ => match v with
          | .agg _ => none
          | v => if n = 1 ∧ e.cells.length = 1 then some (l.set ix v) else none
      else none
    | none => none
  | none => none
theorem storeB_ok {H : Heap} {t : TypeId} {id ver ix off s : Nat} {l l' : List PV} {v : PV} (ho : obj H id ver = some (.blk s l true)) (h : storeB cfg.P t l ix off v = some l') : storeA cfg.P H t (.ptr id ver ix off) v = some [(id, ver, .blk s l' true)] := by
  unfold storeB at h
  unfold storeA
  dsimp only
  rw [ho]
  split at h
  · rename_i n hn
    rw [hn]
    dsimp only
    split at h
    · rename_i e he
      rw [he]
      dsimp only
      split at h
      · rename_i hc
        rw [if_pos hc]
        split at h
        · cases h; rfl
        · rename_i hne
          cases e with
          | agg es => exact absurd rfl (hne es)
          | _ =>
            dsimp only
            split at h
            · cases h
            · rename_i hv
              split at h
              · rename_i h1
                cases h
                cases v with
                | agg vs => exact absurd rfl (hv vs)
                | _ => dsimp only; rw [if_pos h1]
              · cases h
      · cases h
    · cases h
  · cases h
theorem Rs.store {t : TypeId} {a x : Operand} {id v ix off s : Nat} {l l' : List PV} {p : PV} (j : Nat) (ha : evl cfg L a = some (.ptr id v ix off)) (hx : evl cfg L x = some p) (hj : M[j]? = some (id, v, .blk s l true)) (hp : storeB cfg.P t l ix off p = some l')
    (k : Rs cfg cur ops n sz os (i + 1) L (M.set j (id, v, .blk s l' true)) Q) : Rs cfg cur ops n sz (⟨none, .store t a x, ty, ps, af, none⟩ :: os) i L M Q := by
  refine Rs.write (p := undefP) rfl rfl rfl (fun env H fr hE hH hf => ⟨[(id, v, .blk s l' true)], ?_, ?_, ?_⟩) k
  · unfold aopWrite
    dsimp only
    rw [evl_ok hE ha, evl_ok hE hx]
    dsimp only
    rw [storeB_ok (hH.obj hj) hp]
  · exact hH.set hj v _
  · intro i' hi hg
    show (H.put id _).get i' = none
    rw [put_get, if_neg (fun e => ?_)]
    · exact hg
    · have := hH.2 _ _ _ (List.mem_of_getElem? hj)
      rw [← e, hg] at this
      cases this
theorem Rs.store0 {t : TypeId} {a x : Operand} {id v ix off s : Nat} {l l' : List PV} {p : PV} {M0 : Mem} (ha : evl cfg L a = some (.ptr id v ix off)) (hx : evl cfg L x = some p) (hM : M = (id, v, .blk s l true) :: M0) (hp : storeB cfg.P t l ix off p = some l')
    (k : Rs cfg cur ops n sz os (i + 1) L ((id, v, .blk s l' true) :: M0) Q) : Rs cfg cur ops n sz (⟨none, .store t a x, ty, ps, af, none⟩ :: os) i L M Q := by subst hM; exact Rs.store 0 ha hx rfl hp k
theorem Rs.store1 {t : TypeId} {a x : Operand} {id v ix off s : Nat} {l l' : List PV} {p : PV} {M0 : Mem} {m1 : Nat × Nat × HObj} (ha : evl cfg L a = some (.ptr id v ix off)) (hx : evl cfg L x = some p) (hM : M = m1 :: (id, v, .blk s l true) :: M0) (hp : storeB cfg.P t l ix off p = some l')
    (k : Rs cfg cur ops n sz os (i + 1) L (m1 :: (id, v, .blk s l' true) :: M0) Q) : Rs cfg cur ops n sz (⟨none, .store t a x, ty, ps, af, none⟩ :: os) i L M Q := by subst hM; exact Rs.store 1 ha hx rfl hp k
theorem Rs.store2 {t : TypeId} {a x : Operand} {id v ix off s : Nat} {l l' : List PV} {p : PV} {M0 : Mem} {m1 m2 : Nat × Nat × HObj} (ha : evl cfg L a = some (.ptr id v ix off)) (hx : evl cfg L x = some p) (hM : M = m1 :: m2 :: (id, v, .blk s l true) :: M0) (hp : storeB cfg.P t l ix off p = some l')
    (k : Rs cfg cur ops n sz os (i + 1) L (m1 :: m2 :: (id, v, .blk s l' true) :: M0) Q) : Rs cfg cur ops n sz (⟨none, .store t a x, ty, ps, af, none⟩ :: os) i L M Q := by subst hM; exact Rs.store 2 ha hx rfl hp k
theorem Rs.store3 {t : TypeId} {a x : Operand} {id v ix off s : Nat} {l l' : List PV} {p : PV} {M0 : Mem} {m1 m2 m3 : Nat × Nat × HObj} (ha : evl cfg L a = some (.ptr id v ix off)) (hx : evl cfg L x = some p) (hM : M = m1 :: m2 :: m3 :: (id, v, .blk s l true) :: M0) (hp : storeB cfg.P t l ix off p = some l')
    (k : Rs cfg cur ops n sz os (i + 1) L (m1 :: m2 :: m3 :: (id, v, .blk s l' true) :: M0) Q) : Rs cfg cur ops n sz (⟨none, .store t a x, ty, ps, af, none⟩ :: os) i L M Q := by subst hM; exact Rs.store 3 ha hx rfl hp k
def gP (s : Nat) (a : Option (Nat × Nat)) (l : List PV) : PV := match a with | none => .lit (.slice none 0 0) | some (id, v) => .own id v s 0 l.length none
def gM (s : Nat) (a : Option (Nat × Nat)) (l : List PV) : Mem := match a with | none => [] | some (id, v) => [(id, v, .blk s l true)]
theorem Rs.append {d : Tmp} {x y : Operand} {t t2 e : TypeId} {s : Nat} {a : Option (Nat × Nat)} {l xs : List PV} {c : Option Nat} {inf : TypeInfo} {z : PV} (M1 : Mem) {M0 : Mem} (hlt : Nat.blt d sz = true) (hu : cfg.P.underlying t = some (.slice e)) (hu2 : ∃ e2, cfg.P.underlying t2 = some (.slice e2)) (hi : cfg.P.info? e = some inf) (hsz : inf.size = s) (hz : zeroO cfg.P e = some z) (hzl : z.cells.length = s) (hs0 : 0 < s)
    (hx : evl cfg L x = some (gP s a l)) (hy : evl cfg L y = some (.dsl s xs c)) (hM : M = M1 ++ (gM s a l ++ M0)) (hal : a = none ↔ l = []) (h1 : sizesAre s xs = true) (h2 : scalarsE xs = true) (hb : (l.length + xs.length) * inf.bytes ≤ 2 ^ 40 ∧ l.length + xs.length ≤ 2 ^ 40)
    (k : ∀ a', (a' = none ↔ l ++ xs = []) → Rs cfg cur ops n sz os (i + 1) ((d, gP s a' (l ++ xs)) :: L) (M1 ++ (gM s a' (l ++ xs) ++ M0)) Q) : Rs cfg cur ops n sz (⟨some d, .call ⟨.builtin .append, #[x, y], #[t, t2]⟩, ty, ps, af, none⟩ :: os) i L M Q := by
  obtain ⟨e2, hu2⟩ := hu2
  have main : ∀ (env : Env) (H : Heap) (fr : Nat), Cv env L → CvH H M → H.get fr = none → ∃ a' δ, (a' = none ↔ l ++ xs = []) ∧ (a' = none ∨ a' = some (fr, 0) ∨ ∃ id v, a = some (id, v) ∧ (a' = some (id, v) ∨ a' = some (id, v + 1))) ∧ aopWrite cfg env H ⟨some d, .call ⟨.builtin .append, #[x, y], #[t, t2]⟩, ty, ps, af, none⟩ fr = some (gP s a' (l ++ xs), δ) ∧ CvH (applyD H δ) (M1 ++ (gM s a' (l ++ xs) ++ M0)) ∧ ∀ id, id ≠ fr → H.get id = none → (applyD H δ).get id = none := by
    intro env H fr hE hH hf
    have hw : ∀ r, appendA cfg.P H e fr (gP s a l) (.dsl s xs c) = some r → aopWrite cfg env H ⟨some d, .call ⟨.builtin .append, #[x, y], #[t, t2]⟩, ty, ps, af, none⟩ fr = some r := by
      intro r hr
      unfold aopWrite
      dsimp only
      rw [hu, hu2, evl_ok hE hx, evl_ok hE hy]
      exact hr
    cases a with
    | none =>
      have hl := hal.1 rfl
      subst hl
      have hM' : M = M1 ++ M0 := hM
      subst hM'
      cases xs with
      | nil => exact ⟨none, [], ⟨fun _ => rfl, fun _ => rfl⟩, .inl rfl, hw _ (by unfold appendA gP; rw [hi, hz]; simp [elemsOf, hsz, hzl, hs0, sizesAre, scalarsE]), hH, fun id _ h => h⟩
      | cons x0 xs =>
        refine ⟨some (fr, 0), [(fr, 0, .blk s (x0 :: xs) true)], ⟨fun h => (by cases h), fun h => (by simp at h)⟩, .inr (.inl rfl), hw _ ?_, (hH.new hf 0 _).perm List.perm_middle.symm, ?_⟩
        · unfold appendA gP
          rw [hi, hz]
          simp only [elemsOf, hsz, hzl, hs0, h1, h2, if_true, and_self, List.nil_append]
          simp only [List.length_nil, Nat.zero_add] at hb
          rw [if_pos hb]
        · intro id hne h
          show (H.put fr _).get id = none
          rw [put_get, if_neg hne]
          exact h
    | some iv =>
      obtain ⟨id, v⟩ := iv
      have hM' : M = M1 ++ (id, v, .blk s l true) :: M0 := hM
      have hj : M[M1.length]? = some (id, v, .blk s l true) := by rw [hM']; simp
      have ho := hH.obj hj
      cases xs with
      | nil =>
        refine ⟨some (id, v), [], ⟨fun h => (by cases h), fun h => (by rw [List.append_nil] at h; exact absurd (hal.2 h) (by simp))⟩, .inr (.inr ⟨id, v, rfl, .inl rfl⟩), hw _ ?_, ?_, fun id _ h => h⟩
        · unfold appendA gP
          rw [hi, hz]
          simp only [elemsOf, hsz, hzl, hs0, sizesAre, scalarsE, if_true, and_self, ho, Nat.zero_add, Nat.le_refl, List.append_nil, List.length_nil, Nat.add_zero]
          simp only [List.length_nil, Nat.add_zero] at hb
          rw [if_pos (by exact ⟨trivial, trivial, trivial, hb.1, hb.2⟩)]
        · rw [List.append_nil]; rw [hM'] at hH; exact hH
      | cons x0 xs =>
        refine ⟨some (id, v + 1), [(id, v + 1, .blk s (l ++ x0 :: xs) true)], ⟨fun h => (by cases h), fun h => (by simp at h)⟩, .inr (.inr ⟨id, v, rfl, .inr rfl⟩), hw _ ?_, ?_, ?_⟩
        · unfold appendA gP
          rw [hi, hz]
          simp only [elemsOf, hsz, hzl, hs0, h1, h2, if_true, and_self, ho, Nat.zero_add, Nat.le_refl, List.drop_zero, List.take_length, List.length_append]
          rw [if_pos (by exact ⟨trivial, trivial, trivial, hb.1, hb.2⟩)]
        · have := hH.set hj (v + 1) (.blk s (l ++ x0 :: xs) true)
          rw [hM'] at this
          simp only [List.set_append_right _ _ (Nat.le_refl _), Nat.sub_self, List.set_cons_zero] at this
          exact this
        · intro i' hne h
          show (H.put id _).get i' = none
          rw [put_get, if_neg (fun e => ?_)]
          · exact h
          · have := hH.2 _ _ _ (List.mem_of_getElem? hj)
            rw [← e, h] at this
            cases this
  intro base env H m hn hm e1 e2' e3
  obtain ⟨a', δ, ha', _, hw, hcv, hfr⟩ := main env H (base + i) e1 e2' (e3 _ (by simp only [List.length_cons] at hn; omega))
  simp only [List.length_cons] at hn
  have hlt' : d < sz := Nat.le_of_ble_eq_true hlt
  refine Ro.step (s' := ⟨env.put d (gP s a' (l ++ xs)), applyD H δ, m, sz⟩) ?_ (k a' ha' base _ _ m (by omega) hm (e1.put d _) hcv (fun id hid => hfr id (by omega) (e3 id (by omega))))
  unfold stepA effA wantA
  dsimp only
  rw [show cls cfg cur ⟨some d, .call ⟨.builtin .append, #[x, y], #[t, t2]⟩, ty, ps, af, none⟩ = .write from rfl]
  dsimp only
  unfold effWrite
  rw [e3 (base + i) (by omega)]
  dsimp only
  rw [hw]
  dsimp only
  unfold setD
  dsimp only
  rw [if_pos hlt']
end Go.Proofs.YthabndifdgafbaaGreatDoor.RV
end
section
set_option linter.unusedVariables false
namespace Go.Proofs.YthabndifdgafbaaGreatDoor.RV
variable {cfg : Cfg} {cur : FuncId} {sz : Nat} {L : Fr} {M : Mem} {ops : Array Oper} {n i : Nat} {os : List Oper} {Q : St → Prop} {R : Ex → St → Prop} {ty : TypeId} {ps : String} {af : Array Edge}
theorem deepenL_all {H : Heap} {g : PV → Bool} {d : Nat} (hg : ∀ p, g p = true → ∀ k, d < k → deepen H k p = some p) : ∀ (l : List PV) (k : Nat), l.all g = true → d + l.length < k → deepenL H k l = some l
  | [], k, _, hk => by
    cases k with
    | zero => omega
    | succ k => rfl
  | p :: l, k, h, hk => by
    simp only [List.length_cons] at hk
    rw [List.all_cons, Bool.and_eq_true] at h
    cases k with
    | zero => omega
    | succ k =>
      unfold deepenL
      dsimp only
      rw [hg p h.1 k (by omega)]
      dsimp only
      rw [deepenL_all hg l k h.2 (by omega)]
theorem deepenL_id {H : Heap} (l : List PV) (k : Nat) (h : ∀ p ∈ l, ∀ k, 1000 < k → deepen H k p = some p) (hk : 1000 + l.length < k) : deepenL H k l = some l := by
  induction l generalizing k with
  | nil =>
    cases k with
    | zero => omega
    | succ k => rfl
  | cons p l ih =>
    simp only [List.length_cons] at hk
    cases k with
    | zero => omega
    | succ k =>
      unfold deepenL
      dsimp only
      rw [h p (.head _) k (by omega)]
      dsimp only
      rw [ih k (fun q hq => h q (.tail _ hq)) (by omega)]
def cellP (p : PV) : Bool := match p with | .lit _ | .dsl .. | .dptr .. | .dmap .. => true | _ => false
def plainC (l : List PV) : Bool := l.all cellP
theorem deepen_plain {H : Heap} {p : PV} (h : (match p with | .lit _ | .dsl .. | .dptr .. | .dmap .. => true | .agg l => plainC l && decide (l.length < 900) | _ => false) = true) (k : Nat) (hk : 1000 < k) : deepen H k p = some p := by
  cases k with
  | zero => omega
  | succ k =>
    cases p <;> first | rfl | skip
    all_goals first | (simp at h; done) | skip
    rename_i l
    simp only [Bool.and_eq_true, decide_eq_true_eq] at h
    unfold deepen
    dsimp only
    rw [deepenL_all (d := 0) (g := cellP) ?_ l k h.1 (by omega)]
    intro q hq j hj
    cases j with
    | zero => omega
    | succ j => cases q <;> first | rfl | cases hq
theorem Rs.callX {o : Oper} {d : Tmp} {P : PV → Prop} (hg : o.guard = none) (hd : o.dst = some d) (hlt : Nat.blt d sz = true)
    (h : ∀ base env H m, Cv env L → CvH H M → ∃ k p, effA cfg (exec cfg k) cur ops base i o env H m = some (p, H, m) ∧ P p)
    (k : ∀ p, P p → Rs cfg cur ops n sz os (i + 1) ((d, p) :: L) M Q) : Rs cfg cur ops n sz (o :: os) i L M Q := by
  intro base env H m hn hm h1 h2 h3
  simp only [List.length_cons] at hn
  obtain ⟨kk, p, he, hp⟩ := h base env H m h1 h2
  refine Ro.stepX (k := kk) (s' := ⟨env.put d p, H, m, sz⟩) ?_ (k p hp base _ H m (by omega) hm (h1.put d p) h2 h3.next)
  have hlt : d < sz := Nat.le_of_ble_eq_true hlt
  unfold stepA
  dsimp only
  rw [he]
  dsimp only
  unfold setD
  rw [hd]
  dsimp only
  rw [if_pos hlt]
theorem Rs.call0 {d : Tmp} {g : FuncId} {xs : Array Operand} {ats : Array TypeId} {args : List PV} {P : PV → Prop} (hlt : Nat.blt d sz = true) (hm : cfg.mode g = 0) (hx : evls cfg L xs.toList = some args) (hF : Fn cfg g args P)
    (k : ∀ p, P p → Rs cfg cur ops n sz os (i + 1) ((d, p) :: L) M Q) : Rs cfg cur ops n sz (⟨some d, .call ⟨.value (.func g), xs, ats⟩, ty, ps, af, none⟩ :: os) i L M Q := by
  refine Rs.callX rfl rfl hlt (fun base env H m h1 h2 => ?_) k
  obtain ⟨kk, p, hp, hP⟩ := hF
  refine ⟨kk, p, ?_, hP⟩
  have hc : cls cfg cur ⟨some d, .call ⟨.value (.func g), xs, ats⟩, ty, ps, af, none⟩ = .pure := by unfold cls; dsimp only; rw [hm]; rfl
  unfold effA wantA
  dsimp only
  rw [hc]
  unfold effPure callee?
  dsimp only
  rw [evls_ok h1 hx]
  unfold pureCall
  rw [hm]
  simp only [hp]
def resl (L : Fr) : List ResultVar → Option (List PV)
  | [] => some []
  | .tmp t :: rs => match lk L t with
    | some p => match resl L rs with | some ps => some (p :: ps) | none => none
    | none => none
  | _ => none
theorem resl_ok {P : Program} {s : St} (h : Cv s.env L) : ∀ {rs : List ResultVar} {ps : List PV}, resl L rs = some ps → resAll P s rs = some ps
  | [], ps, e => e
  | .tmp t :: rs, ps, e => by
    unfold resl at e
    unfold resAll resOne
    dsimp only
    split at e
    · rename_i p hp
      rw [h t p hp]
      split at e
      · rename_i q hq
        rw [resl_ok h hq]
        exact e
      · cases e
    · cases e
  | .cell .. :: rs, ps, e => by cases e
def one : List PV → PV
  | [p] => p
  | l => .tup l
def FinQ (cfg : Cfg) (fn : Func) (Q : PV → Prop) : Ex → St → Prop := fun e s => isEnd e = true ∧ ∃ p q, resA cfg.P s fn.results.toList = some p ∧ deepen s.H fuelD p = some q ∧ Q q
def FinM (cfg : Cfg) (fn : Func) (Q : PV → Heap → Nat → Prop) : Ex → St → Prop := fun e s => isEnd e = true ∧ ∃ p, resA cfg.P s fn.results.toList = some p ∧ Q p s.H s.m
theorem resA_of {P : Program} {s : St} {rs : List ResultVar} {l : List PV} (h : resAll P s rs = some l) : resA P s rs = some (one l) := by
  unfold resA
  rw [h]
  match l with
  | [] => rfl
  | [p] => rfl
  | p :: q :: r => rfl
theorem Ps.fin {fn : Func} {Q : PV → Prop} {e : Ex} {l : List PV} {q : PV} (he : isEnd e = true) (hr : resl L fn.results.toList = some l) (hd : ∀ H, CvH H M → deepen H fuelD (one l) = some q) (hq : Q q) : Ps sz L M (FinQ cfg fn Q e) :=
  fun env H m h1 h2 h3 => ⟨he, one l, q, resA_of (resl_ok (s := ⟨env, H, m, sz⟩) h1 hr), hd H h2, hq⟩
def num : Nat → List PV → Fr
  | _, [] => []
  | i, p :: ps => (i, p) :: num (i + 1) ps
theorem lk_num : ∀ (l : List PV) (i t : Nat) (p : PV), lk (num i l) t = some p → i ≤ t ∧ l[t - i]? = some p
  | [], i, t, p, h => by cases h
  | q :: l, i, t, p, h => by
    unfold num lk at h
    split at h
    · rename_i e
      cases h
      have := Nat.eq_of_beq_eq_true e
      subst this
      simp
    · rename_i e
      obtain ⟨h1, h2⟩ := lk_num l (i + 1) t p h
      refine ⟨by omega, ?_⟩
      rw [show t - i = t - (i + 1) + 1 by omega, List.getElem?_cons_succ]
      exact h2
theorem Cv.args (l : List PV) (hl : l.length ≤ 8000) : Cv (envOf l 0 .e) (num 0 l) := by
  intro t p h
  obtain ⟨_, h2⟩ := lk_num l 0 t p h
  unfold Env.at
  rw [envOf_get l 0 _ (by omega) t]
  have hlt := (List.getElem?_eq_some_iff.1 h2).1
  rw [if_pos (by omega), h2]
theorem Fn.go {f : FuncId} {fn : Func} {c : Code} {args : List PV} {Q : PV → Prop} (hf : cfg.P.funcs[f]? = some fn) (hc : fn.body = some c) (hs : cfg.fns f = true) (hn : (Nat.ble args.length fn.ntmps && Nat.ble fn.ntmps 8000) = true) (hd : deepL args = true) (hL : num 0 args = L)
    (h : Ps fn.ntmps L [] (fun s => Ev cfg f c s (FinQ cfg fn Q))) : Fn cfg f args Q := by
  subst hL
  exact
  have hn : args.length ≤ fn.ntmps ∧ fn.ntmps ≤ 8000 := by rw [Bool.and_eq_true] at hn; exact ⟨Nat.le_of_ble_eq_true hn.1, Nat.le_of_ble_eq_true hn.2⟩
  Fn.of hf hc hs hn hd (h _ _ _ (Cv.args args (by omega)) ⟨List.nodup_nil, fun _ _ _ hm => by cases hm⟩ fun id _ => by unfold Tr.get; rfl)
theorem Fm.go {f : FuncId} {fn : Func} {c : Code} {args : List PV} {H : Heap} {m : Nat} {Q : PV → Heap → Nat → Prop} (hf : cfg.P.funcs[f]? = some fn) (hc : fn.body = some c) (hs : cfg.fns f = true) (hn : (Nat.ble args.length fn.ntmps && Nat.ble fn.ntmps 8000) = true) (h2 : CvH H M) (h3 : ∀ id, m ≤ id → H.get id = none) (hL : num 0 args = L)
    (h : Ps fn.ntmps L M (fun s => Ev cfg f c s (FinM cfg fn Q))) : Fm cfg f args H m Q := by
  subst hL
  exact
  have hn : args.length ≤ fn.ntmps ∧ fn.ntmps ≤ 8000 := by rw [Bool.and_eq_true] at hn; exact ⟨Nat.le_of_ble_eq_true hn.1, Nat.le_of_ble_eq_true hn.2⟩
  Fm.of hf hc hs hn (h _ _ _ (Cv.args args (by omega)) h2 h3)
theorem Fn.mono {f : FuncId} {args : List PV} {P Q : PV → Prop} (h : Fn cfg f args P) (hq : ∀ p, P p → Q p) : Fn cfg f args Q := by
  obtain ⟨k, p, h1, h2⟩ := h
  exact ⟨k, p, h1, hq p h2⟩
end Go.Proofs.YthabndifdgafbaaGreatDoor.RV
end
section
set_option linter.unusedVariables false
namespace Go.Proofs.YthabndifdgafbaaGreatDoor.RV
variable {cfg : Cfg} {cur : FuncId} {sz : Nat} {L : Fr} {M : Mem} {ops : Array Oper} {n i : Nat} {os : List Oper} {Q : St → Prop} {R : Ex → St → Prop} {ty : TypeId} {ps : String} {af : Array Edge}
theorem W_i64 {n : Int} (h1 : -9223372036854775808 ≤ n) (h2 : n ≤ 9223372036854775807) : IntKind.i64.wrap n = n := by
  show (if (true && decide (n % 18446744073709551616 ≥ 9223372036854775808)) = true then n % 18446744073709551616 - 18446744073709551616 else n % 18446744073709551616) = n
  simp only [Bool.true_and, decide_eq_true_eq]
  split <;> omega
theorem W_i64s {j : Nat} (h : j < 9223372036854775807) : IntKind.i64.wrap ((j : Int) + 1) = ((j + 1 : Nat) : Int) := (W_i64 (by omega) (by omega)).trans (by omega)
theorem drop_at {α : Type} {l : List α} {j : Nat} {x : α} (h : l[j]? = some x) : l.drop j = x :: l.drop (j + 1) := by
  obtain ⟨hlt, rfl⟩ := List.getElem?_eq_some_iff.1 h
  exact List.drop_eq_getElem_cons hlt
theorem HasL.nil {L : Fr} : HasL L [] := trivial
theorem HasL.cons {L r : Fr} {t : Nat} {p : PV} (h : RV.lk L t = some p) (h2 : HasL L r) : HasL L ((t, p) :: r) := ⟨h, h2⟩
theorem D1 {p : Prop} [Decidable p] (h : decide p = true) : p := of_decide_eq_true h
theorem D2 {p : Prop} [Decidable p] (h : decide p = false) : ¬ p := of_decide_eq_false h
theorem D3 {a b : Int} (h : (a == b) = true) : a = b := eq_of_beq h
theorem D4 {a b : Int} (h : (a == b) = false) : a ≠ b := by simpa using h
theorem D5 {a b : Int} (h : (a != b) = true) : a ≠ b := by simpa using h
theorem D6 {a b : Int} (h : (a != b) = false) : a = b := by simpa using h
theorem D7 {p : Prop} [Decidable p] (h : (!decide p) = true) : ¬ p := by simpa using h
theorem D8 {p : Prop} [Decidable p] (h : (!decide p) = false) : p := by simpa using h
theorem D9 {b : Bool} (h : (!b) = true) : b = false := by simpa using h
theorem D10 {b : Bool} (h : (!b) = false) : b = true := by simpa using h
class Dc (b c : Bool) (p : outParam Prop) : Prop where
  out : b = c → p
theorem dc {b c : Bool} {p : Prop} [h : Dc b c p] (e : b = c) : p := h.out e
instance {b : Bool} : Dc (!b) true (b = false) := ⟨D9⟩
instance {b : Bool} : Dc (!b) false (b = true) := ⟨D10⟩
instance {p : Prop} [Decidable p] : Dc (decide p) true p := ⟨D1⟩
instance {p : Prop} [Decidable p] : Dc (decide p) false (¬ p) := ⟨D2⟩
instance {p : Prop} [Decidable p] : Dc (!decide p) true (¬ p) := ⟨D7⟩
instance {p : Prop} [Decidable p] : Dc (!decide p) false p := ⟨D8⟩
instance {a b : Int} : Dc (a == b) true (a = b) := ⟨D3⟩
instance {a b : Int} : Dc (a == b) false (a ≠ b) := ⟨D4⟩
instance {a b : Int} : Dc (a != b) true (a ≠ b) := ⟨D5⟩
instance {a b : Int} : Dc (a != b) false (a = b) := ⟨D6⟩
theorem W_i32 {n : Int} (h1 : -2147483648 ≤ n) (h2 : n ≤ 2147483647) : IntKind.i32.wrap n = n := by
  show (if (true && decide (n % 4294967296 ≥ 2147483648)) = true then n % 4294967296 - 4294967296 else n % 4294967296) = n
  simp only [Bool.true_and, decide_eq_true_eq]
  split <;> omega
theorem W_u32 {n : Int} (h1 : 0 ≤ n) (h2 : n ≤ 4294967295) : IntKind.u32.wrap n = n := by
  show n % 4294967296 = n
  omega
theorem Rs.add {d : Tmp} {t t2 : TypeId} {x y : Operand} {ik : IntKind} {a b c : Int} (hlt : Nat.blt d sz = true) (hx : evl cfg L x = some (.lit (.int ik a))) (hy : evl cfg L y = some (.lit (.int ik b)))
    (h : ik.wrap (a + b) = c) (k : Rs cfg cur ops n sz os (i + 1) ((d, .lit (.int ik c)) :: L) M Q) : Rs cfg cur ops n sz (⟨some d, .binOp .add t x y t2, ty, ps, af, none⟩ :: os) i L M Q := Rs.arith hlt hx hy h k
theorem Rs.sub {d : Tmp} {t t2 : TypeId} {x y : Operand} {ik : IntKind} {a b c : Int} (hlt : Nat.blt d sz = true) (hx : evl cfg L x = some (.lit (.int ik a))) (hy : evl cfg L y = some (.lit (.int ik b)))
    (h : ik.wrap (a - b) = c) (k : Rs cfg cur ops n sz os (i + 1) ((d, .lit (.int ik c)) :: L) M Q) : Rs cfg cur ops n sz (⟨some d, .binOp .sub t x y t2, ty, ps, af, none⟩ :: os) i L M Q := Rs.arith hlt hx hy h k
theorem Rs.mul {d : Tmp} {t t2 : TypeId} {x y : Operand} {ik : IntKind} {a b c : Int} (hlt : Nat.blt d sz = true) (hx : evl cfg L x = some (.lit (.int ik a))) (hy : evl cfg L y = some (.lit (.int ik b)))
    (h : ik.wrap (a * b) = c) (k : Rs cfg cur ops n sz os (i + 1) ((d, .lit (.int ik c)) :: L) M Q) : Rs cfg cur ops n sz (⟨some d, .binOp .mul t x y t2, ty, ps, af, none⟩ :: os) i L M Q := Rs.arith hlt hx hy h k
theorem Rs.convI {d : Tmp} {s t : TypeId} {x : Operand} {ik jk : IntKind} {a c : Int} (hlt : Nat.blt d sz = true) (h1 : isSliceT cfg.P s = false) (hs : ∃ u, cfg.P.underlying s = some u) (ht : cfg.P.underlying t = some (.int jk)) (hx : evl cfg L x = some (.lit (.int ik a)))
    (h : jk.wrap a = c) (k : Rs cfg cur ops n sz os (i + 1) ((d, .lit (.int jk c)) :: L) M Q) : Rs cfg cur ops n sz (⟨some d, .convert s t x, ty, ps, af, none⟩ :: os) i L M Q := by
  refine Rs.conv (a := .int ik a) (v := .int jk c) hlt h1 (by unfold isSliceT; rw [ht]) hx rfl ?_ rfl k
  obtain ⟨u, hu⟩ := hs
  have hu' : ∀ t u, cfg.P.underlying t = some u → pureRun cfg.P (Go.underlying t) = some u := by
    intro t u h
    show pureRun cfg.P (match cfg.P.underlying t with | some u => _ | none => _) = _
    rw [h]
    rfl
  unfold convert
  rw [pureRun_bind, hu' s u hu]
  dsimp only [Option.bind]
  rw [pureRun_bind, hu' t _ ht]
  subst h
  rfl
theorem Rs.pick {d c : Tmp} {a b : Operand} {p q : PV} {t : Bool} (hlt : Nat.blt d sz = true) (hc : evl cfg L (.tmp c) = some (.lit (.bool t))) (ha : evl cfg L a = some p) (hb : evl cfg L b = some q)
    (k1 : t = true → Rs cfg cur ops n sz os (i + 1) ((d, p) :: (c, .lit (.bool true)) :: L) M Q) (k2 : t = false → Rs cfg cur ops n sz os (i + 1) ((d, q) :: (c, .lit (.bool false)) :: L) M Q) :
    Rs cfg cur ops n sz (⟨some d, .pick (.tmp c) a b, ty, ps, af, none⟩ :: os) i L M Q := by
  have up : ∀ (w : Bool) (r : PV), t = w → Rs cfg cur ops n sz os (i + 1) ((d, r) :: (c, .lit (.bool w)) :: L) M Q → Rs cfg cur ops n sz os (i + 1) ((d, r) :: L) M Q := by
    intro w r hw h
    subst hw
    intro base env H m hn hm h1 h2 h3
    refine h base env H m hn hm ?_ h2 h3
    intro t' p' hp'
    have hc' : lk L c = some (.lit (.bool t)) := hc
    unfold lk at hp'
    split at hp'
    · rename_i e
      cases hp'
      exact h1 t' _ (by unfold lk; rw [e])
    · rename_i e
      unfold lk at hp'
      split at hp'
      · rename_i e2
        cases hp'
        have := Nat.eq_of_beq_eq_true e2
        subst this
        exact h1 _ _ (by unfold lk; rw [e]; exact hc')
      · exact h1 t' p' (by unfold lk; rw [e]; exact hp')
  cases t with
  | true => exact Rs.pickT hlt hc ha hb (up true p rfl (k1 rfl))
  | false => exact Rs.pickF hlt hc ha hb (up false q rfl (k2 rfl))
theorem Rs.lenA {d : Tmp} {x : Operand} {t : TypeId} {s : Nat} {a : Option (Nat × Nat)} {l : List PV} (hlt : Nat.blt d sz = true) (ht : isSliceT cfg.P t = true) (hm : isMapT cfg.P t = false) (hx : evl cfg L x = some (gP s a l)) (hal : a = none ↔ l = []) (k : Rs cfg cur ops n sz os (i + 1) ((d, .lit (.int .i64 l.length)) :: L) M Q) :
    Rs cfg cur ops n sz (⟨some d, .call ⟨.builtin .len, #[x], #[t]⟩, ty, ps, af, none⟩ :: os) i L M Q := by
  cases a with
  | none =>
    have := hal.1 rfl
    subst this
    refine Rs.lenL (v := .int .i64 0) hlt hm hx ?_ rfl k
    unfold isSliceT at ht
    split at ht
    · rename_i e hu
      have hu' : pureRun cfg.P (Go.underlying t) = some (.slice e) := by
        show pureRun cfg.P (match cfg.P.underlying t with | some u => _ | none => _) = _
        rw [hu]
        rfl
      show pureRun cfg.P (Go.underlying t >>= fun u => _) = _
      rw [pureRun_bind, hu']
      rfl
    · cases ht
  | some iv => exact Rs.lenO hlt ht hm hx k
theorem Rs.loadR {d : Tmp} {t : TypeId} {x : Operand} {off : Nat} {l : List PV} {p : PV} (hlt : Nat.blt d sz = true) (hc : cls cfg cur ⟨some d, .load t x, ty, ps, af, none⟩ = .read) (hx : evl cfg L x = some (.dptr l off)) (hp : partO cfg.P t l off = some p) (k : Rs cfg cur ops n sz os (i + 1) ((d, p) :: L) M Q) :
    Rs cfg cur ops n sz (⟨some d, .load t x, ty, ps, af, none⟩ :: os) i L M Q := by
  refine Rs.read rfl rfl hlt hc rfl (fun env H hE hH => ?_) k
  unfold aopRead
  dsimp only
  rw [evl_ok hE hx]
  exact hp
theorem map_at {α β : Type} {f : α → β} {l : List α} {j : Nat} {x : α} (h : l[j]? = some x) : (l.map f)[j]? = some (f x) := by rw [List.getElem?_map, h]; rfl
theorem at_lt {α : Type} {l : List α} {j : Nat} (h : j < l.length) : ∃ x, l[j]? = some x := ⟨l[j], List.getElem?_eq_getElem h⟩
theorem Rs.binB {d : Tmp} {op : BinOp} {t t2 : TypeId} {x y : Operand} {p q : PV} {a b : Value} {r : Bool} (hlt : Nat.blt d sz = true) (hx : evl cfg L x = some p) (hp : toVal p = some a) (hy : evl cfg L y = some q) (hq : toVal q = some b)
    (h : pureRun cfg.P (do eqGuard op t x y a b; binOp op t a b) = some (.bool r)) (k : Rs cfg cur ops n sz os (i + 1) ((d, .lit (.bool r)) :: L) M Q) : Rs cfg cur ops n sz (⟨some d, .binOp op t x y t2, ty, ps, af, none⟩ :: os) i L M Q :=
  Rs.bin hlt hx hp hy hq h rfl k
theorem Rs.binI {d : Tmp} {op : BinOp} {t t2 : TypeId} {x y : Operand} {ik jk kk : IntKind} {a b c : Int} (hlt : Nat.blt d sz = true) (hx : evl cfg L x = some (.lit (.int ik a))) (hy : evl cfg L y = some (.lit (.int jk b)))
    (h : pureRun cfg.P (do eqGuard op t x y (.int ik a) (.int jk b); binOp op t (.int ik a) (.int jk b)) = some (.int kk c)) (k : Rs cfg cur ops n sz os (i + 1) ((d, .lit (.int kk c)) :: L) M Q) : Rs cfg cur ops n sz (⟨some d, .binOp op t x y t2, ty, ps, af, none⟩ :: os) i L M Q :=
  Rs.bin hlt hx rfl hy rfl h rfl k
theorem Rs.rem {d : Tmp} {t t2 : TypeId} {x y : Operand} {ik : IntKind} {a b c : Int} (hlt : Nat.blt d sz = true) (hx : evl cfg L x = some (.lit (.int ik a))) (hy : evl cfg L y = some (.lit (.int ik b))) (h0 : b ≠ 0) (hc : a.tmod b = c)
    (k : Rs cfg cur ops n sz os (i + 1) ((d, .lit (.int ik c)) :: L) M Q) : Rs cfg cur ops n sz (⟨some d, .binOp .rem t x y t2, ty, ps, af, none⟩ :: os) i L M Q := by
  refine Rs.binI (c := c) (kk := ik) hlt hx hy ?_ k
  subst hc
  have : pureRun cfg.P (Op.intDiv .rem ik a b) = some (.int ik (a.tmod b)) := by
    unfold Op.intDiv
    rw [if_neg h0]
    rfl
  cases ik <;> exact this
theorem Rs.not {d : Tmp} {t : TypeId} {x : Operand} {b : Bool} (hlt : Nat.blt d sz = true) (hx : evl cfg L x = some (.lit (.bool b))) (k : Rs cfg cur ops n sz os (i + 1) ((d, .lit (.bool (!b))) :: L) M Q) : Rs cfg cur ops n sz (⟨some d, .unOp .not t x, ty, ps, af, none⟩ :: os) i L M Q :=
  Rs.un (v := .bool !b) hlt hx rfl rfl rfl k
theorem Rs.neg {d : Tmp} {t : TypeId} {x : Operand} {ik : IntKind} {a c : Int} (hlt : Nat.blt d sz = true) (hx : evl cfg L x = some (.lit (.int ik a))) (h : ik.wrap (0 - a) = c) (k : Rs cfg cur ops n sz os (i + 1) ((d, .lit (.int ik c)) :: L) M Q) : Rs cfg cur ops n sz (⟨some d, .unOp .neg t x, ty, ps, af, none⟩ :: os) i L M Q :=
  Rs.un (v := .int ik c) hlt hx rfl (by rw [← h]; rfl) rfl k
theorem Rs.lenI {d : Tmp} {x : Operand} {t : TypeId} {a : Value} {c : Int} (hlt : Nat.blt d sz = true) (hm : isMapT cfg.P t = false) (hx : evl cfg L x = some (.lit a)) (h : pureRun cfg.P (Builtin.len_ #[t] ty #[a]) = some (.int .i64 c)) (k : Rs cfg cur ops n sz os (i + 1) ((d, .lit (.int .i64 c)) :: L) M Q) :
    Rs cfg cur ops n sz (⟨some d, .call ⟨.builtin .len, #[x], #[t]⟩, ty, ps, af, none⟩ :: os) i L M Q := Rs.lenL hlt hm hx h rfl k
end Go.Proofs.YthabndifdgafbaaGreatDoor.RV
end
section
set_option linter.unusedVariables false
namespace Go.Proofs.YthabndifdgafbaaGreatDoor.RV
variable {cfg : Cfg} {cur : FuncId} {sz : Nat} {L : Fr} {M : Mem} {ops : Array Oper} {n i : Nat} {os : List Oper} {Q : St → Prop} {R : Ex → St → Prop} {ty : TypeId} {ps : String} {af : Array Edge}
def IsSl (s : Nat) (l : List PV) (p : PV) : Prop := (∃ c, p = .dsl s l c) ∨ (l = [] ∧ p = .lit (.slice none 0 0))
def slP (s : Nat) (l : List PV) : PV := match l with | [] => .lit (.slice none 0 0) | x :: xs => .dsl s (x :: xs) none
theorem slP_ne {s : Nat} {l : List PV} (h : l ≠ []) : slP s l = .dsl s l none := by
  cases l with
  | nil => exact absurd rfl h
  | cons x xs => rfl
theorem dsl_is {s : Nat} {l : List PV} {c : Option Nat} : IsSl s l (.dsl s l c) := .inl ⟨c, rfl⟩
theorem nil_is {s : Nat} : IsSl s [] (.lit (.slice none 0 0)) := .inr ⟨rfl, rfl⟩
theorem IsSl.deep {s : Nat} {l : List PV} {p : PV} (h : IsSl s l p) : deepB p = true := by
  rcases h with ⟨c, rfl⟩ | ⟨_, rfl⟩ <;> rfl
theorem IsSl.cells {s : Nat} {l : List PV} {p : PV} (h : IsSl s l p) : p.cells = [p] := by
  rcases h with ⟨c, rfl⟩ | ⟨_, rfl⟩ <;> rfl
theorem IsSl.scalar {s : Nat} {l : List PV} {p : PV} (h : IsSl s l p) : p.scalar = true := by
  rcases h with ⟨c, rfl⟩ | ⟨_, rfl⟩ <;> rfl
theorem IsSl.deepen {H : Heap} {s : Nat} {l : List PV} {p : PV} (h : IsSl s l p) {k : Nat} : deepen H (k + 1) p = some p := by
  rcases h with ⟨c, rfl⟩ | ⟨_, rfl⟩ <;> rfl
theorem Rs.lenS {d : Tmp} {x : Operand} {t : TypeId} {s : Nat} {l : List PV} {p : PV} (hlt : Nat.blt d sz = true) (ht : isSliceT cfg.P t = true) (hm : isMapT cfg.P t = false) (hx : evl cfg L x = some p) (hp : IsSl s l p) (k : Rs cfg cur ops n sz os (i + 1) ((d, .lit (.int .i64 l.length)) :: L) M Q) :
    Rs cfg cur ops n sz (⟨some d, .call ⟨.builtin .len, #[x], #[t]⟩, ty, ps, af, none⟩ :: os) i L M Q := by
  rcases hp with ⟨c, rfl⟩ | ⟨rfl, rfl⟩
  · exact Rs.lenD hlt ht hm hx k
  · exact Rs.lenA (s := s) (a := none) (l := []) hlt ht hm hx (by simp) k
theorem Rs.indexS {d : Tmp} {t e : TypeId} {x y : Operand} {s j : Nat} {jk : IntKind} {ji : Int} {l lc : List PV} {p q : PV} (hlt : Nat.blt d sz = true) (hu : cfg.P.underlying t = some (.slice e)) (hs : szO cfg.P e = some s) (hx : evl cfg L x = some q) (hy : evl cfg L y = some (.lit (.int jk ji))) (hq : IsSl s l q) (hj : ji = (j : Int)) (hl : l[j]? = some p) (hlc : p.cells = lc) (k : Rs cfg cur ops n sz os (i + 1) ((d, .dptr lc 0) :: L) M Q) :
    Rs cfg cur ops n sz (⟨some d, .indexAddr t x y, ty, ps, af, none⟩ :: os) i L M Q := by
  rcases hq with ⟨c, rfl⟩ | ⟨rfl, rfl⟩
  · exact Rs.indexD hlt hu hs hx hy hj hl hlc k
  · simp at hl
inductive ResR (cfg : Cfg) (L : Fr) (M : Mem) : List ResultVar → List PV → Prop
  | nil : ResR cfg L M [] []
  | tmp {t : Nat} {p : PV} {rs : List ResultVar} {ps : List PV} (h : lk L t = some p) (r : ResR cfg L M rs ps) : ResR cfg L M (.tmp t :: rs) (p :: ps)
  | cell (j : Nat) {a : Nat} {t : TypeId} {id v ix off s : Nat} {l : List PV} {b : Bool} {p : PV} {rs : List ResultVar} {ps : List PV} (ha : lk L a = some (.ptr id v ix off)) (hj : M[j]? = some (id, v, .blk s l b)) (hp : partE cfg.P t l ix off = some p) (r : ResR cfg L M rs ps) : ResR cfg L M (.cell a t :: rs) (p :: ps)
theorem loadA_of {H : Heap} {j : Nat} {t : TypeId} {id v ix off s : Nat} {l : List PV} {b : Bool} {p : PV} (h : CvH H M) (hj : M[j]? = some (id, v, .blk s l b)) (hp : partE cfg.P t l ix off = some p) : loadA cfg.P H t (.ptr id v ix off) = some p := by
  unfold loadA
  dsimp only
  rw [h.obj hj]
  exact hp
theorem ResR.ok {s : St} {rs : List ResultVar} {ps : List PV} (h : ResR cfg L M rs ps) (h1 : Cv s.env L) (h2 : CvH s.H M) : resAll cfg.P s rs = some ps := by
  induction h with
  | nil => rfl
  | tmp h _ ih =>
    unfold resAll resOne
    dsimp only
    rw [h1 _ _ h, ih]
  | cell j ha hj hp _ ih =>
    unfold resAll resOne
    dsimp only
    rw [h1 _ _ ha]
    rw [loadA_of h2 hj hp, ih]
theorem Ps.finR {fn : Func} {Q : PV → Prop} {e : Ex} {l : List PV} {q : PV} (he : isEnd e = true) (hr : ResR cfg L M fn.results.toList l) (hd : ∀ H, CvH H M → deepen H fuelD (one l) = some q) (hq : Q q) : Ps sz L M (FinQ cfg fn Q e) :=
  fun env H m h1 h2 h3 => ⟨he, one l, q, resA_of (hr.ok (s := ⟨env, H, m, sz⟩) h1 h2), hd H h2, hq⟩
theorem Ps.finMR {fn : Func} {Q : PV → Heap → Nat → Prop} {e : Ex} {l : List PV} (he : isEnd e = true) (hr : ResR cfg L M fn.results.toList l) (hq : ∀ H m, CvH H M → (∀ id, m ≤ id → H.get id = none) → Q (one l) H m) : Ps sz L M (FinM cfg fn Q e) :=
  fun env H m h1 h2 h3 => ⟨he, one l, resA_of (hr.ok (s := ⟨env, H, m, sz⟩) h1 h2), hq H m h2 h3⟩
def plainP (p : PV) : Bool := match p with | .lit _ | .dsl .. | .dptr .. | .dmap .. => true | .agg l => plainC l && decide (l.length < 900) | _ => false
theorem deepen_pl {H : Heap} {p : PV} (h : plainP p = true) {k : Nat} (hk : 1000 < k) : deepen H k p = some p := deepen_plain h k hk
def Dp (n : Nat) (H : Heap) (p q : PV) : Prop := ∀ k, n < k → deepen H k p = some q
theorem Dp.plain {H : Heap} {p : PV} (n : Nat) (hn : Nat.ble 1000 n = true) (h : plainP p = true) : Dp n H p p := fun k hk => deepen_pl h (by have := Nat.le_of_ble_eq_true hn; omega)
theorem Dp.up {H : Heap} {n m : Nat} {p q : PV} (h : Dp n H p q) (hn : Nat.ble n m = true) : Dp m H p q := fun k hk => h k (by have := Nat.le_of_ble_eq_true hn; omega)
theorem CvH.g {H : Heap} {s id v : Nat} {l : List PV} (h : CvH H M) (hm : (id, v, .blk s l true) ∈ M) : RV.obj H id v = some (.blk s l true) := by
  obtain ⟨j, hj⟩ := List.getElem?_of_mem hm
  exact h.obj hj
theorem Dp.g {H : Heap} {s : Nat} {a : Option (Nat × Nat)} {l : List PV} (hal : a = none ↔ l = []) (hH : CvH H M) (hm : ∀ x ∈ gM s a l, x ∈ M) (hl : ∀ p ∈ l, plainP p = true) (hn : l.length ≤ 90000) : Dp 95000 H (gP s a l) (slP s l) := by
  intro k hk
  cases a with
  | none =>
    obtain rfl := hal.1 rfl
    cases k with
    | zero => omega
    | succ k => rfl
  | some iv =>
    obtain ⟨id, v⟩ := iv
    have hne : l ≠ [] := fun e => by have := hal.2 e; cases this
    rw [slP_ne hne]
    have ho := hH.g (hm _ (by unfold gM; exact .head _))
    cases k with
    | zero => omega
    | succ k =>
      unfold deepen gP
      dsimp only
      rw [ho]
      dsimp only
      rw [if_pos ⟨rfl, by omega⟩, List.drop_zero, List.take_length, deepenL_id l k (fun p hp k hk => deepen_pl (hl p hp) hk) (by omega)]
inductive DpL (n : Nat) (H : Heap) : List PV → List PV → Prop
  | nil : DpL n H [] []
  | cons {p q : PV} {ps qs : List PV} (h : Dp n H p q) (t : DpL n H ps qs) : DpL n H (p :: ps) (q :: qs)
theorem DpL.ok {n : Nat} {H : Heap} {ps qs : List PV} (h : DpL n H ps qs) : ∀ k, n + ps.length + 1 < k → deepenL H k ps = some qs := by
  induction h with
  | nil =>
    intro k hk
    cases k with
    | zero => omega
    | succ k => rfl
  | cons hp _ ih =>
    intro k hk
    simp only [List.length_cons] at hk
    cases k with
    | zero => omega
    | succ k =>
      unfold deepenL
      dsimp only
      rw [hp k (by omega), ih k (by omega)]
theorem Dp.tup {n m : Nat} {H : Heap} {ps qs : List PV} (h : DpL n H ps qs) (hm : Nat.ble (n + ps.length + 2) m = true) : Dp m H (.tup ps) (.tup qs) := by
  intro k hk
  have := Nat.le_of_ble_eq_true hm
  cases k with
  | zero => omega
  | succ k =>
    unfold deepen
    dsimp only
    rw [h.ok k (by omega)]
theorem Dp.agg {n m : Nat} {H : Heap} {ps qs : List PV} (h : DpL n H ps qs) (hm : Nat.ble (n + ps.length + 2) m = true) : Dp m H (.agg ps) (.agg qs) := by
  intro k hk
  have := Nat.le_of_ble_eq_true hm
  cases k with
  | zero => omega
  | succ k =>
    unfold deepen
    dsimp only
    rw [h.ok k (by omega)]
theorem Dp.top {n : Nat} {H : Heap} {p q : PV} (h : Dp n H p q) (hn : Nat.blt n 100000 = true) : deepen H fuelD p = some q := h _ (Nat.le_of_ble_eq_true hn)
theorem DpL.top {n : Nat} {H : Heap} {ps qs : List PV} (h : DpL n H ps qs) (hn : Nat.blt (n + ps.length + 1) 100000 = true) : deepenL H fuelD ps = some qs := h.ok _ (Nat.le_of_ble_eq_true hn)
theorem deepenL_plain {H : Heap} : ∀ (l : List PV) (k : Nat), l.all plainP = true → 1000 + l.length < k → deepenL H k l = some l :=
  fun l k h hk => deepenL_id l k (fun p hp k hk => deepen_pl (List.all_eq_true.1 h p hp) hk) hk
theorem Ps.finP {fn : Func} {Q : PV → Prop} {e : Ex} {l : List PV} (he : isEnd e = true) (hr : ResR cfg L M fn.results.toList l) (hp : l.all plainP = true) (hn : Nat.blt l.length 900 = true) (hq : Q (one l)) : Ps sz L M (FinQ cfg fn Q e) := by
  refine Ps.finR he hr (fun H hH => ?_) hq
  have hn : l.length < 900 := Nat.le_of_ble_eq_true hn
  match l, hp, hn with
  | [], _, _ => rfl
  | [p], hp, _ =>
    rw [List.all_cons, Bool.and_eq_true] at hp
    exact deepen_pl hp.1 (by decide)
  | p :: q :: r, hp, hn =>
    show deepen H fuelD (.tup (p :: q :: r)) = _
    rw [show fuelD = 99999 + 1 from rfl]
    unfold deepen
    dsimp only
    rw [deepenL_plain _ _ hp (by omega)]
    rfl
theorem IsSl.plain {s : Nat} {l : List PV} {p : PV} (h : IsSl s l p) : plainP p = true := by
  rcases h with ⟨c, rfl⟩ | ⟨_, rfl⟩ <;> rfl
end Go.Proofs.YthabndifdgafbaaGreatDoor.RV
end
end
section
set_option linter.constructorNameAsVariable false
namespace Go.Proofs.YthabndifdgafbaaGreatDoor.RV
section
variable {cfg : Cfg} {env : Env} {H : Heap} {X : Run}
theorem obj_put {k : Nat} {e : Nat × HObj} (hk : H.get k = none) {id ver : Nat} {o : HObj} (h : obj H id ver = some o) : obj (H.put k e) id ver = some o := by
  have hg := obj_spec h
  unfold obj
  rw [put_get]
  have : id ≠ k := fun e => by rw [e, hk] at hg; cases hg
  rw [if_neg this, hg]
  simp
theorem mapOf_put {k : Nat} {e : Nat × HObj} (hk : H.get k = none) {m : PV} {r : List Value × List PV × List Nat × Nat} (h : mapOf H m = some r) : mapOf (H.put k e) m = some r := by
  unfold mapOf at h ⊢
  split at h
  · exact h
  · split at h
    · rename_i ho
      rw [obj_put hk ho]
      exact h
    · cases h
  · exact h
  · cases h
theorem loadA_put {P : Program} {k : Nat} {e : Nat × HObj} (hk : H.get k = none) {t : TypeId} {q p : PV} (h : loadA P H t q = some p) : loadA P (H.put k e) t q = some p := by
  unfold loadA at h ⊢
  split at h
  · split at h
    · rename_i ho
      rw [obj_put hk ho]
      exact h
    · cases h
  · exact h
  · cases h
theorem aopRead_put {k : Nat} {e : Nat × HObj} (hk : H.get k = none) {o : Oper} {p : PV} (h : aopRead cfg env H o = some p) : aopRead cfg env (H.put k e) o = some p := by
  obtain ⟨dst, op, ty, pos, after, guard⟩ := o
  cases op <;> simp only [aopRead] at h ⊢
  case load t x =>
    split at h
    · exact loadA_put hk h
    · cases h
  case convert src dst x =>
    split at h
    · split at h
      · split at h
        · rename_i ho
          rw [obj_put hk ho]
          exact h
        · cases h
      · split at h
        · rename_i ho
          rw [obj_put hk ho]
          exact h
        · cases h
      · exact h
      · exact h
      · cases h
    · cases h
  case entry it =>
    split at h
    · split at h
      · rename_i ho
        rw [obj_put hk ho]
        simp only
        split at h
        · rename_i hm
          rw [mapOf_put hk hm]
          simp only [*]
        · cases h
      · cases h
    · cases h
  case lookup t m kk ok =>
    split at h
    · split at h
      · split at h
        · rename_i hl
          have : ∀ {t m kv r}, lookupA cfg.P H t m kv = some r → lookupA cfg.P (H.put k e) t m kv = some r := by
            intro t m kv r hl
            unfold lookupA at hl ⊢
            split at hl
            · split at hl
              · rename_i hm
                rw [mapOf_put hk hm]
                exact hl
              · cases hl
            · cases hl
          rw [this hl]
          exact h
        · cases h
      · cases h
    · cases h
  case call c =>
    obtain ⟨callee, args, argTypes⟩ := c
    cases callee <;> simp only at h ⊢ <;> try cases h
    rename_i b
    cases b <;> simp only at h ⊢ <;> try cases h
    split at h
    · split at h
      · exact h
      · exact h
      · split at h
        · rename_i ho
          rw [obj_put hk ho]
          exact h
        · cases h
      · cases h
    · cases h
  all_goals cases h
theorem elemsOf_put {k : Nat} {e : Nat × HObj} (hk : H.get k = none) {s : Nat} {q : PV} {l : List PV} (h : elemsOf H s q = some l) : elemsOf (H.put k e) s q = some l := by
  unfold elemsOf at h ⊢
  split at h
  · split at h
    · rename_i ho
      rw [obj_put hk ho]
      exact h
    · cases h
  · exact h
  · exact h
  · exact h
  · cases h
theorem aopWrite_put {k : Nat} {e : Nat × HObj} (hk : H.get k = none) {o : Oper} {fr : Nat} {r : PV × Delta} (h : aopWrite cfg env H o fr = some r) : aopWrite cfg env (H.put k e) o fr = some r := by
  obtain ⟨dst, op, ty, pos, after, guard⟩ := o
  cases op <;> simp only [aopWrite] at h ⊢
  case store t a x =>
    split at h
    · have : ∀ {q v d}, storeA cfg.P H t q v = some d → storeA cfg.P (H.put k e) t q v = some d := by
        intro q v d hs
        unfold storeA at hs ⊢
        split at hs
        · split at hs
          · rename_i ho hn
            rw [obj_put hk ho, hn]
            exact hs
          · cases hs
        · cases hs
      split at h
      · rename_i hs
        rw [this hs]
        exact h
      · cases h
    · cases h
  case mapUpdate t m kk x =>
    have : ∀ {m kv v d}, updateA cfg.P H t m kv v = some d → updateA cfg.P (H.put k e) t m kv v = some d := by
      intro m kv v d hs
      unfold updateA at hs ⊢
      split at hs
      · split at hs
        · split at hs
          · rename_i ho
            rw [obj_put hk ho]
            exact hs
          · cases hs
        · cases hs
      · cases hs
    split at h
    · split at h
      · split at h
        · rename_i hs
          rw [this hs]
          exact h
        · cases h
      · cases h
    · cases h
  case insert t m kk x =>
    have : ∀ {m kv v d}, updateA cfg.P H t m kv v = some d → updateA cfg.P (H.put k e) t m kv v = some d := by
      intro m kv v d hs
      unfold updateA at hs ⊢
      split at hs
      · split at hs
        · split at hs
          · rename_i ho
            rw [obj_put hk ho]
            exact hs
          · cases hs
        · cases hs
      · cases hs
    split at h
    · split at h
      · split at h
        · rename_i hs
          rw [this hs]
          exact h
        · cases h
      · cases h
    · cases h
  case next it b =>
    split at h
    · split at h
      · rename_i ho
        rw [obj_put hk ho]
        exact h
      · cases h
    · split at h
      · rename_i ho
        rw [obj_put hk ho]
        simp only
        split at h
        · rename_i hm
          rw [mapOf_put hk hm]
          exact h
        · cases h
      · cases h
    · cases h
  case range t x =>
    split at h
    · split at h
      · rename_i hm
        rw [mapOf_put hk hm]
        exact h
      · cases h
    · cases h
  case call c =>
    obtain ⟨callee, args, argTypes⟩ := c
    cases callee <;> simp only at h ⊢ <;> try cases h
    rename_i b
    cases b <;> simp only at h ⊢ <;> try cases h
    · have : ∀ {el fr d x r}, appendA cfg.P H el fr d x = some r → appendA cfg.P (H.put k e) el fr d x = some r := by
        intro el fr d x r hs
        unfold appendA at hs ⊢
        split at hs
        · split at hs
          · rename_i he
            rw [elemsOf_put hk he]
            simp only
            split at hs
            · rename_i hc
              rw [if_pos hc]
              split at hs
              · exact hs
              · split at hs
                · rename_i ho
                  rw [obj_put hk ho]
                  exact hs
                · cases hs
              · exact hs
              · cases hs
            · cases hs
          · cases hs
        · cases hs
      split at h
      · split at h
        · exact this h
        · exact this h
        · cases h
      · cases h
    · have : ∀ {el d x r}, copyA cfg.P H el d x = some r → copyA cfg.P (H.put k e) el d x = some r := by
        intro el d x r hs
        unfold copyA at hs ⊢
        split at hs
        · split at hs
          · rename_i he
            rw [elemsOf_put hk he]
            simp only
            split at hs
            · rename_i ho
              rw [obj_put hk ho]
              exact hs
            · cases hs
          · rename_i he
            rw [elemsOf_put hk he]
            exact hs
          · rename_i he
            rw [elemsOf_put hk he]
            exact hs
          · cases hs
        · cases hs
      split at h
      · split at h
        · exact this h
        · cases h
      · cases h
  case convert s t x =>
    split at h
    · try dsimp only
      split at h
      · rename_i h4 ho
        try dsimp only
        rw [h4, obj_put hk ho]
        exact h
      · cases h
    · cases h
  all_goals cases h
theorem put_comm {α : Type} (t : Tr α) {k q : Nat} {x y : α} (h : k ≠ q) : (t.put k x).put q y = (t.put q y).put k x := by
  rw [Tr.put_eq, Tr.put_eq, Tr.put_eq, Tr.put_eq]
  exact Tr.set_comm (depth k) (depth q) t k q x y (depth_ok k) (depth_ok q) h
theorem applyD_cons {H : Heap} {id ver : Nat} {o : HObj} {d : Delta} : applyD H ((id, ver, o) :: d) = applyD (H.put id (ver, o)) d := by
  unfold applyD
  rw [List.foldl_cons]
theorem applyD_none {k : Nat} (d : Delta) : ∀ H : Heap, (applyD H d).get k = none → H.get k = none ∧ ∀ e ∈ d, e.1 ≠ k := by
  induction d with
  | nil => exact fun H h => ⟨h, fun e he => by cases he⟩
  | cons y d ih =>
    obtain ⟨id, ver, o⟩ := y
    intro H h
    rw [applyD_cons] at h
    obtain ⟨h1, h2⟩ := ih _ h
    rw [put_get] at h1
    have hne : ¬ (k = id) := fun hh => by rw [if_pos hh] at h1; cases h1
    rw [if_neg hne] at h1
    refine ⟨h1, fun e he => ?_⟩
    rcases List.mem_cons.1 he with rfl | he
    · intro e
      have e : id = k := e
      exact hne e.symm
    · exact h2 e he
theorem applyD_put {k : Nat} {x : Nat × HObj} (d : Delta) : ∀ H : Heap, (∀ e ∈ d, e.1 ≠ k) → applyD (H.put k x) d = (applyD H d).put k x := by
  induction d with
  | nil => exact fun H _ => by unfold applyD; rw [List.foldl_nil, List.foldl_nil]
  | cons y d ih =>
    obtain ⟨id, ver, o⟩ := y
    intro H h
    have h0 : id ≠ k := h (id, ver, o) (by simp)
    rw [applyD_cons, applyD_cons, put_comm _ (Ne.symm h0), ih _ (fun e he => h e (by simp [he]))]
end
end Go.Proofs.YthabndifdgafbaaGreatDoor.RV
end
section
section
set_option linter.unusedVariables false
namespace Go.Proofs.YthabndifdgafbaaGreatDoor.RV
variable {cfg : Cfg} {cur : FuncId} {sz : Nat} {L : Fr} {M : Mem} {ops : Array Oper} {n i : Nat} {os : List Oper} {Q : St → Prop} {R : Ex → St → Prop} {ty : TypeId} {ps : String} {af : Array Edge}
def Grow (H : Heap) (m : Nat) (H' : Heap) (m' : Nat) : Prop := m ≤ m' ∧ (∀ id, id < m → H.get id = none → H'.get id = none) ∧ ((∀ id, m ≤ id → H.get id = none) → ∀ id, m' ≤ id → H'.get id = none)
theorem Grow.refl (H : Heap) (m : Nat) : Grow H m H m := ⟨Nat.le_refl _, fun _ _ h => h, fun h => h⟩
theorem Grow.trans {H H' H'' : Heap} {m m' m'' : Nat} (a : Grow H m H' m') (b : Grow H' m' H'' m'') : Grow H m H'' m'' :=
  ⟨Nat.le_trans a.1 b.1, fun id hid h => b.2.1 id (Nat.lt_of_lt_of_le hid a.1) (a.2.1 id hid h), fun h => b.2.2 (a.2.2 h)⟩
def XG (X : Run) : Prop := ∀ cur c s e s', X cur c s = some (e, s') → Grow s.H s.m s'.H s'.m
theorem obj_some {H : Heap} {id ver : Nat} {o : HObj} (h : obj H id ver = some o) : H.get id ≠ none := by
  intro e
  unfold obj at h
  rw [e] at h
  cases h
def DOk (H : Heap) (fr : Nat) (d : Delta) : Prop := ∀ e ∈ d, e.1 = fr ∨ H.get e.1 ≠ none
theorem storeA_ids {P : Program} {H : Heap} {t : TypeId} {p v : PV} {d : Delta} {fr : Nat} (h : storeA P H t p v = some d) : DOk H fr d := by
  unfold storeA at h
  split at h
  · rename_i id ver idx off
    split at h
    · rename_i s l n ho _
      split at h
      · split at h
        · split at h
          · cases h; intro e he; rw [List.mem_singleton.1 he]; exact .inr (obj_some ho)
          · split at h
            · cases h
            · split at h <;> cases h
              intro e he; rw [List.mem_singleton.1 he]; exact .inr (obj_some ho)
        · cases h
      · cases h
    · cases h
  · cases h
theorem appendA_ids {P : Program} {H : Heap} {t : TypeId} {p v q : PV} {d : Delta} {fr : Nat} (h : appendA P H t fr p v = some (q, d)) : DOk H fr d := by
  unfold appendA at h
  split at h
  · split at h
    · split at h
      · split at h
        · split at h
          · cases h; intro e he; cases he
          · split at h <;> cases h
            intro e he; rw [List.mem_singleton.1 he]; exact .inl rfl
        · split at h
          · rename_i ho
            split at h
            · split at h
              · cases h; intro e he; cases he
              · split at h
                · split at h
                  · cases h; intro e he; rw [List.mem_singleton.1 he]; exact .inl rfl
                  · split at h <;> cases h
                    intro e he; rw [List.mem_singleton.1 he]; exact .inr (obj_some ho)
                · split at h <;> cases h
                  intro e he; rw [List.mem_singleton.1 he]; exact .inr (obj_some ho)
            · cases h
          · cases h
        · split at h
          · split at h
            · cases h; intro e he; cases he
            · split at h
              · split at h <;> cases h
                intro e he; rw [List.mem_singleton.1 he]; exact .inl rfl
              · cases h
          · cases h
        · cases h
      · cases h
    · cases h
  · cases h
theorem copyA_ids {P : Program} {H : Heap} {t : TypeId} {p v q : PV} {d : Delta} {fr : Nat} (h : copyA P H t p v = some (q, d)) : DOk H fr d := by
  unfold copyA at h
  split at h
  · split at h
    · split at h
      · rename_i ho
        split at h <;> cases h
        intro e he; rw [List.mem_singleton.1 he]; exact .inr (obj_some ho)
      · cases h
    · cases h; intro e he; cases he
    · cases h; intro e he; cases he
    · cases h
  · cases h
theorem updateA_ids {P : Program} {H : Heap} {t : TypeId} {p v : PV} {k : Value} {d : Delta} {fr : Nat} (h : updateA P H t p k v = some d) : DOk H fr d := by
  unfold updateA at h
  split at h
  · split at h
    · split at h
      · rename_i ho
        split at h
        · split at h
          · split at h
            · split at h <;> cases h
              intro e he; rw [List.mem_singleton.1 he]; exact .inr (obj_some ho)
            · cases h
          · cases h
            intro e he; rw [List.mem_singleton.1 he]; exact .inr (obj_some ho)
          · cases h
        · cases h
      · cases h
    · cases h
  · cases h
theorem aopWrite_ids {env : Env} {H : Heap} {o : Oper} {fr : Nat} {p : PV} {d : Delta} (h : aopWrite cfg env H o fr = some (p, d)) : DOk H fr d := by
  unfold aopWrite at h
  split at h
  · split at h
    · split at h <;> cases h
      exact storeA_ids (by assumption)
    · cases h
  · split at h
    · split at h
      · split at h
        · exact appendA_ids h
        · exact appendA_ids h
        · cases h
      · cases h
    · split at h
      · split at h
        · exact copyA_ids h
        · cases h
      · cases h
    · cases h
  · split at h
    · split at h
      · split at h
        · cases h; exact updateA_ids (by assumption)
        · cases h
      · cases h
    · cases h
  · split at h
    · split at h
      · split at h
        · cases h; exact updateA_ids (by assumption)
        · cases h
      · cases h
    · cases h
  · split at h
    · split at h
      · rename_i ho
        dsimp only at h
        split at h
        · cases h; intro e he; rw [List.mem_singleton.1 he]; exact .inr (obj_some ho)
        · cases h; intro e he; cases he
      · cases h
    · split at h
      · rename_i ho
        split at h
        · split at h
          · cases h; intro e he; cases he
          · cases h; intro e he; rw [List.mem_singleton.1 he]; exact .inr (obj_some ho)
          · cases h
        · cases h
      · cases h
    · cases h
  · split at h
    · split at h
      · rename_i ho
        cases h; intro e he; rw [List.mem_singleton.1 he]; exact .inr (obj_some ho)
      · cases h
    · cases h
  · split at h
    · split at h
      · cases h; intro e he; rw [List.mem_singleton.1 he]; exact .inl rfl
      · cases h
    · cases h
  · cases h
theorem applyD_none2 {H : Heap} {fr : Nat} : ∀ (d : Delta), (∀ e ∈ d, e.1 = fr ∨ H.get e.1 ≠ none) → ∀ (H' : Heap), (∀ id, H.get id ≠ none → H'.get id ≠ none) → ∀ id, id ≠ fr → H.get id = none → H'.get id = none → (applyD H' d).get id = none
  | [], _, H', _, id, _, _, h => h
  | (k, v, o) :: d, hd, H', hH, id, hne, h0, h => by
    rw [applyD_cons]
    refine applyD_none2 d (fun e he => hd e (by simp [he])) _ (fun id' h' => ?_) id hne h0 ?_
    · rw [put_get]
      split
      · simp
      · exact hH id' h'
    · rw [put_get, if_neg (fun e => ?_)]
      · exact h
      · rcases hd (k, v, o) (by simp) with hk | hk
        · exact hne (e.trans hk)
        · exact hk (e ▸ h0)
theorem callA_grow {X : Run} (hX : XG X) {f : FuncId} {args : List PV} {H H' : Heap} {m m' : Nat} {p : PV} (h : callA cfg X f args H m = some (p, H', m')) : Grow H m H' m' := by
  unfold callA at h
  split at h
  · cases h
  · split at h
    · cases h
    · split at h
      · cases h
      · split at h
        · split at h
          · cases h
          · rename_i e s _ hex
            split at h <;> cases h
            exact hX _ _ _ _ _ hex
          · cases h
        · cases h
def Grow1 (fr : Nat) (H : Heap) (m : Nat) (H' : Heap) (m' : Nat) : Prop := m ≤ m' ∧ (∀ id, id ≠ fr → id < m → H.get id = none → H'.get id = none) ∧ (fr < m → (∀ id, m ≤ id → H.get id = none) → ∀ id, m' ≤ id → H'.get id = none)
theorem Grow.one {fr : Nat} {H H' : Heap} {m m' : Nat} (h : Grow H m H' m') : Grow1 fr H m H' m' := ⟨h.1, fun id _ => h.2.1 id, fun _ => h.2.2⟩
theorem effA_grow {X : Run} (hX : XG X) {base : Nat} {o : Oper} {env : Env} {H H' : Heap} {m m' : Nat} {p : PV} (h : effA cfg X cur ops base i o env H m = some (p, H', m')) : Grow1 (base + i) H m H' m' := by
  unfold effA at h
  split at h
  · cases h; exact (Grow.refl _ _).one
  · split at h
    · split at h <;> cases h
      exact (Grow.refl _ _).one
    · split at h
      · split at h <;> cases h
        refine ⟨Nat.le_refl _, fun id hne _ h0 => by rw [put_get, if_neg hne]; exact h0, fun hf h0 id hid => by rw [put_get, if_neg (by omega)]; exact h0 id hid⟩
      · cases h
        exact (Grow.refl _ _).one
      · cases h
    · split at h <;> cases h
      exact (Grow.refl _ _).one
    · split at h <;> cases h
      rename_i hw
      unfold effWrite at hw
      split at hw
      · split at hw <;> cases hw
        rename_i hd
        have hids := aopWrite_ids hd
        exact ⟨Nat.le_refl _, fun id hne _ h0 => applyD_none2 _ hids _ (fun _ h => h) id hne h0 h0, fun hf h0 id hid => applyD_none2 _ hids _ (fun _ h => h) id (by omega) (h0 id hid) (h0 id hid)⟩
      · cases hw
    · unfold effWild at h
      split at h
      · split at h
        · split at h
          · split at h
            · exact (callA_grow hX h).one
            · split at h <;> cases h
              exact (Grow.refl _ _).one
          · cases h
        · cases h
      · cases h
theorem stepA_grow {X : Run} (hX : XG X) {base : Nat} {o : Oper} {s s' : St} (h : stepA cfg X cur ops base i o s = some s') : Grow1 (base + i) s.H s.m s'.H s'.m := by
  unfold stepA at h
  split at h
  · rename_i he
    have := effA_grow hX he
    unfold setD at h
    split at h
    · split at h <;> cases h
      exact this
    · cases h
      exact this
  · cases h
theorem runOps_grow {X : Run} (hX : XG X) {base n : Nat} : ∀ (l : List Oper) (i : Nat) (s s' : St), i + l.length ≤ n → base + n ≤ s.m → runOps cfg X cur ops base l i s = some s' →
    s.m ≤ s'.m ∧ (∀ id, id < s.m → ¬ (base ≤ id ∧ id < base + n) → s.H.get id = none → s'.H.get id = none) ∧ ((∀ id, s.m ≤ id → s.H.get id = none) → ∀ id, s'.m ≤ id → s'.H.get id = none)
  | [], i, s, s', _, _, h => by simp only [runOps] at h; cases h; exact ⟨Nat.le_refl _, fun _ _ _ h => h, fun h => h⟩
  | o :: os, i, s, s', hi, hb, h => by
    simp only [List.length_cons] at hi
    unfold runOps at h
    split at h
    · rename_i s1 hs
      obtain ⟨a1, a2, a3⟩ := stepA_grow hX hs
      obtain ⟨b1, b2, b3⟩ := runOps_grow (n := n) hX os (i + 1) s1 s' (by omega) (by omega) h
      exact ⟨by omega, fun id hid hn h0 => b2 id (by omega) hn (a2 id (by omega) hid h0), fun h0 => b3 (a3 (by omega) h0)⟩
    · cases h
theorem exec_grow : ∀ k, XG (exec cfg k)
  | 0 => fun _ _ _ _ _ h => by simp [exec] at h
  | k + 1 => by
    have ih : XG (exec cfg k) := exec_grow k
    intro cur c s e s' h
    unfold exec at h
    cases c with
    | skip => cases h; exact .refl _ _
    | label => cases h; exact .refl _ _
    | exit => cases h; exact .refl _ _
    | ret => cases h; exact .refl _ _
    | scope b => exact ih _ _ _ _ _ h
    | region id ops d =>
      dsimp only at h
      split at h
      · rename_i s1 hr
        have hg := runOps_grow (n := ops.size) ih ops.toList 0 _ _ (by simp) (Nat.le_refl _) hr
        have hs : s' = s1 := by
          split at h
          · split at h <;> cases h
            rfl
          · cases h; rfl
        subst hs
        obtain ⟨a1, a2, a3⟩ := hg
        dsimp only at a1 a2 a3
        exact ⟨by omega, fun id hid h0 => a2 id (by omega) (by omega) h0, fun h0 => a3 fun id hid => h0 id (by omega)⟩
      · cases h
    | seq a b =>
      dsimp only at h
      split at h
      · rename_i hx
        exact (ih _ _ _ _ _ hx).trans (ih _ _ _ _ _ h)
      · exact ih _ _ _ _ _ h
    | cond c a b =>
      dsimp only at h
      split at h
      · exact ih _ _ _ _ _ h
      · exact ih _ _ _ _ _ h
      · cases h
    | block id b =>
      dsimp only at h
      split at h
      · rename_i hx
        have := ih _ _ _ _ _ hx
        split at h <;> cases h <;> exact this
      · exact ih _ _ _ _ _ h
    | loop b =>
      dsimp only at h
      split at h
      · rename_i hx
        exact (ih _ _ _ _ _ hx).trans (ih _ _ _ _ _ h)
      · exact ih _ _ _ _ _ h
    | _ => cases h
def Fm0 (cfg : Cfg) (g : FuncId) (args : List PV) (M : Mem) (P : PV → Mem → Prop) : Prop :=
  ∀ H m, CvH H M → (∀ id, m ≤ id → H.get id = none) → Fm cfg g args H m fun p H' m' => ∃ M', CvH H' M' ∧ P p M'
theorem Rs.callM {d : Option Tmp} {f : Operand} {g : FuncId} {fs cs : List PV} {xs : Array Operand} {ats : Array TypeId} {args : List PV} {P : PV → Mem → Prop} (hlt : (match d with | some d => Nat.blt d sz | none => true) = true) (hc : cls cfg cur ⟨d, .call ⟨.value f, xs, ats⟩, ty, ps, af, none⟩ = .wild) (hf : evl cfg L f = some (.clo g fs cs)) (hm : cfg.mode g = 2) (hx : evls cfg L xs.toList = some args) (hF : Fm0 cfg g (fs ++ (args ++ cs)) M P)
    (k : ∀ p M', P p M' → Rs cfg cur ops n sz os (i + 1) (putO d p L) M' Q) : Rs cfg cur ops n sz (⟨d, .call ⟨.value f, xs, ats⟩, ty, ps, af, none⟩ :: os) i L M Q := by
  intro base env H m hn hmm h1 h2 h3
  simp only [List.length_cons] at hn
  obtain ⟨kk, p, H', m', hcall, M', hcv, hP⟩ := hF H m h2 fun id hid => h3 id (.inr hid)
  obtain ⟨g1, g2, g3⟩ := callA_grow (exec_grow kk) hcall
  have he : effA cfg (exec cfg kk) cur ops base i ⟨d, .call ⟨.value f, xs, ats⟩, ty, ps, af, none⟩ env H m = some (p, H', m') := by
    unfold effA wantA
    dsimp only
    rw [hc]
    unfold effWild
    dsimp only
    rw [evl_ok h1 hf, evls_ok h1 hx]
    dsimp only
    rw [hm]
    exact hcall
  have hfre : Fre H' (base + (i + 1)) (base + n) m' := fun id hid => by
    rcases hid with hid | hid
    · exact g2 id (by omega) (h3 id (.inl (by omega)))
    · exact g3 (fun id hid => h3 id (.inr hid)) id hid
  cases d with
  | none =>
    refine Ro.stepX (k := kk) (s' := ⟨env, H', m', sz⟩) ?_ (k p M' hP base env H' m' (by omega) (by omega) h1 hcv hfre)
    unfold stepA
    dsimp only
    rw [he]
    rfl
  | some d =>
    have hlt : d < sz := Nat.le_of_ble_eq_true hlt
    refine Ro.stepX (k := kk) (s' := ⟨env.put d p, H', m', sz⟩) ?_ (k p M' hP base _ H' m' (by omega) (by omega) (h1.put d p) hcv hfre)
    unfold stepA
    dsimp only
    rw [he]
    dsimp only
    unfold setD
    dsimp only
    rw [if_pos hlt]
theorem Fm0.go {f : FuncId} {fn : Func} {c : Code} {args : List PV} {P : PV → Mem → Prop} (hf : cfg.P.funcs[f]? = some fn) (hc : fn.body = some c) (hs : cfg.fns f = true) (hn : (Nat.ble args.length fn.ntmps && Nat.ble fn.ntmps 8000) = true) (hL : num 0 args = L)
    (h : Ps fn.ntmps L M (fun s => Ev cfg f c s (FinM cfg fn fun p H' m' => ∃ M', CvH H' M' ∧ P p M'))) : Fm0 cfg f args M P :=
  fun H m h1 h2 => Fm.go hf hc hs hn h1 h2 hL h
theorem Ps.finM0 {fn : Func} {P : PV → Mem → Prop} {e : Ex} {l : List PV} (he : isEnd e = true) (hr : ResR cfg L M fn.results.toList l) (hq : P (one l) M) : Ps sz L M (FinM cfg fn (fun p H' m' => ∃ M', CvH H' M' ∧ P p M') e) :=
  Ps.finMR he hr fun H m h1 h2 => ⟨M, h1, hq⟩
end Go.Proofs.YthabndifdgafbaaGreatDoor.RV
end
section
set_option linter.unusedVariables false
namespace Go.Proofs.YthabndifdgafbaaGreatDoor.RV
variable {cfg : Cfg} {cur : FuncId} {sz : Nat} {L : Fr} {M : Mem} {ops : Array Oper} {n i : Nat} {os : List Oper} {Q : St → Prop} {R : Ex → St → Prop} {ty : TypeId} {ps : String} {af : Array Edge}
def fP (s : Nat) (b : Option (Nat × Nat)) (l : List PV) : PV := match b with | none => .dsl s l (some l.length) | some (id, v) => .own id v s 0 l.length none
def fM (s : Nat) (b : Option (Nat × Nat)) (l : List PV) : Mem := match b with | none => [] | some (id, v) => [(id, v, .blk s l true)]
theorem Rs.appendF {d : Tmp} {x y : Operand} {t t2 e : TypeId} {s : Nat} {a : Option (Nat × Nat)} {l : List PV} {x0 : PV} {c : Option Nat} {inf : TypeInfo} {z : PV} (M1 : Mem) {M0 : Mem} (hlt : Nat.blt d sz = true) (hu : cfg.P.underlying t = some (.slice e)) (hu2 : ∃ e2, cfg.P.underlying t2 = some (.slice e2)) (hi : cfg.P.info? e = some inf) (hsz : inf.size = s) (hz : zeroO cfg.P e = some z) (hzl : z.cells.length = s) (hs0 : 0 < s)
    (hx : evl cfg L x = some (fP s a l)) (hy : evl cfg L y = some (.dsl s [x0] c)) (hM : M = M1 ++ (fM s a l ++ M0)) (h1 : sizesAre s [x0] = true) (h2 : scalarsE [x0] = true) (hb : (l.length + 1) * inf.bytes ≤ 2 ^ 40 ∧ l.length + 1 ≤ 2 ^ 40)
    (k : ∀ id v, Rs cfg cur ops n sz os (i + 1) ((d, .own id v s 0 (l ++ [x0]).length none) :: L) (M1 ++ ((id, v, .blk s (l ++ [x0]) true) :: M0)) Q) : Rs cfg cur ops n sz (⟨some d, .call ⟨.builtin .append, #[x, y], #[t, t2]⟩, ty, ps, af, none⟩ :: os) i L M Q := by
  obtain ⟨e2, hu2⟩ := hu2
  have main : ∀ (env : Env) (H : Heap) (fr : Nat), Cv env L → CvH H M → H.get fr = none → ∃ id v δ, aopWrite cfg env H ⟨some d, .call ⟨.builtin .append, #[x, y], #[t, t2]⟩, ty, ps, af, none⟩ fr = some (.own id v s 0 (l ++ [x0]).length none, δ) ∧ CvH (applyD H δ) (M1 ++ ((id, v, .blk s (l ++ [x0]) true) :: M0)) ∧ ∀ id, id ≠ fr → H.get id = none → (applyD H δ).get id = none := by
    intro env H fr hE hH hf
    have hw : ∀ r, appendA cfg.P H e fr (fP s a l) (.dsl s [x0] c) = some r → aopWrite cfg env H ⟨some d, .call ⟨.builtin .append, #[x, y], #[t, t2]⟩, ty, ps, af, none⟩ fr = some r := by
      intro r hr
      unfold aopWrite
      dsimp only
      rw [hu, hu2, evl_ok hE hx, evl_ok hE hy]
      exact hr
    cases a with
    | none =>
      have hM' : M = M1 ++ M0 := hM
      subst hM'
      refine ⟨fr, 0, [(fr, 0, .blk s (l ++ [x0]) true)], hw _ ?_, (hH.new hf 0 _).perm List.perm_middle.symm, ?_⟩
      · unfold appendA fP
        rw [hi, hz]
        simp only [elemsOf, hsz, hzl, hs0, h1, h2, if_true, and_self, List.length_append, List.length_singleton]
        rw [if_pos ⟨trivial, hb.1, hb.2⟩, if_pos (by omega)]
      · intro id hne h
        show (H.put fr _).get id = none
        rw [put_get, if_neg hne]
        exact h
    | some iv =>
      obtain ⟨id, v⟩ := iv
      have hM' : M = M1 ++ (id, v, .blk s l true) :: M0 := hM
      have hj : M[M1.length]? = some (id, v, .blk s l true) := by rw [hM']; simp
      have ho := hH.obj hj
      refine ⟨id, v + 1, [(id, v + 1, .blk s (l ++ [x0]) true)], hw _ ?_, ?_, ?_⟩
      · unfold appendA fP
        rw [hi, hz]
        simp only [elemsOf, hsz, hzl, hs0, h1, h2, if_true, and_self, ho, Nat.zero_add, Nat.le_refl, List.drop_zero, List.take_length, List.length_append, List.length_singleton]
        rw [if_pos (by exact ⟨trivial, trivial, trivial, hb.1, hb.2⟩)]
      · have := hH.set hj (v + 1) (.blk s (l ++ [x0]) true)
        rw [hM'] at this
        simp only [List.set_append_right _ _ (Nat.le_refl _), Nat.sub_self, List.set_cons_zero] at this
        exact this
      · intro i' hne h
        show (H.put id _).get i' = none
        rw [put_get, if_neg (fun e => ?_)]
        · exact h
        · have := hH.2 _ _ _ (List.mem_of_getElem? hj)
          rw [← e, h] at this
          cases this
  intro base env H m hn hm e1 e2' e3
  simp only [List.length_cons] at hn
  obtain ⟨id, v, δ, hw, hcv, hfr⟩ := main env H (base + i) e1 e2' (e3 _ (by omega))
  have hlt' : d < sz := Nat.le_of_ble_eq_true hlt
  refine Ro.step (s' := ⟨env.put d (.own id v s 0 (l ++ [x0]).length none), applyD H δ, m, sz⟩) ?_ (k id v base _ _ m (by omega) hm (e1.put d _) hcv (fun id hid => hfr id (by omega) (e3 id (by omega))))
  unfold stepA effA wantA
  dsimp only
  rw [show cls cfg cur ⟨some d, .call ⟨.builtin .append, #[x, y], #[t, t2]⟩, ty, ps, af, none⟩ = .write from rfl]
  dsimp only
  unfold effWrite
  rw [e3 (base + i) (by omega)]
  dsimp only
  rw [hw]
  dsimp only
  unfold setD
  dsimp only
  rw [if_pos hlt']
def JnJ {J : Type} (sz : Nat) (hd : Head J) (L0 : Fr) (R : Ex → St → Prop) : Ex → St → Prop
  | .normal, s => ∃ j, hd.C j ∧ s.sz = sz ∧ Cv s.env (hd.E j ++ L0) ∧ CvH s.H (hd.M j) ∧ ∀ id, s.m ≤ id → s.H.get id = none
  | .exit id, s => R (.exit id) s
  | .ret, s => R .ret s
theorem Ps.join {J : Type} (hd : Head J) (W : List Nat) (L0 : Fr) {c b : Code} (hL0 : dropW W L = L0) (hc : Ps sz L M (fun s => Ev cfg cur c s (JnJ sz hd L0 R)))
    (k : ∀ j, hd.C j → Ps sz (hd.E j ++ L0) (hd.M j) (fun s => Ev cfg cur b s R)) : Ps sz L M (fun s => Ev cfg cur c s (Thn cfg cur b R)) := by
  intro env H m h1 h2 h3
  refine (hc env H m h1 h2 h3).mono ?_
  rintro e ⟨env', H', m', sz'⟩ h
  cases e with
  | normal =>
    obtain ⟨j, a1, a2, a3, a4, a5⟩ := h
    have a2 : sz' = sz := a2
    subst a2
    exact k j a1 env' H' m' a3 a4 a5
  | exit id => exact h
  | ret => exact h
theorem Rs.appendF2 {d : Tmp} {x y : Operand} {t t2 e : TypeId} (s bs : Nat) {a : Option (Nat × Nat)} {l : List PV} {x0 : PV} {c : Option Nat} {inf : TypeInfo} {z : PV} {M0 : Mem} {m1 m2 : Nat × Nat × HObj} (hlt : Nat.blt d sz = true) (hu : cfg.P.underlying t = some (.slice e)) (hu2 : ∃ e2, cfg.P.underlying t2 = some (.slice e2)) (hi : cfg.P.info? e = some inf) (hsz : inf.size = s) (hbs : inf.bytes = bs) (hbb : Nat.ble bs 1000000 = true) (hz : zeroO cfg.P e = some z) (hzl : z.cells.length = s) (hs0 : Nat.blt 0 s = true)
    (hx : evl cfg L x = some (fP s a l)) (hy : evl cfg L y = some (.dsl s [x0] c)) (hM : M = m1 :: m2 :: (fM s a l ++ M0)) (h1 : sizesAre s [x0] = true) (h2 : scalarsE [x0] = true) (hb : l.length + 1 ≤ 1000000)
    (k : ∀ id v, Rs cfg cur ops n sz os (i + 1) ((d, .own id v s 0 (l ++ [x0]).length none) :: L) (m1 :: m2 :: ((id, v, .blk s (l ++ [x0]) true) :: M0)) Q) : Rs cfg cur ops n sz (⟨some d, .call ⟨.builtin .append, #[x, y], #[t, t2]⟩, ty, ps, af, none⟩ :: os) i L M Q :=
  Rs.appendF [m1, m2] hlt hu hu2 hi hsz hz hzl (Nat.le_of_ble_eq_true hs0) hx hy hM h1 h2 (by
    have h1 := Nat.le_of_ble_eq_true hbb
    rw [hbs]
    have h2 : (l.length + 1) * bs ≤ 1000000 * 1000000 := Nat.mul_le_mul hb h1
    constructor <;> omega) k
theorem Rs.appendF3 {d : Tmp} {x y : Operand} {t t2 e : TypeId} (s bs : Nat) {a : Option (Nat × Nat)} {l : List PV} {x0 : PV} {c : Option Nat} {inf : TypeInfo} {z : PV} {M0 : Mem} {m1 m2 m3 : Nat × Nat × HObj} (hlt : Nat.blt d sz = true) (hu : cfg.P.underlying t = some (.slice e)) (hu2 : ∃ e2, cfg.P.underlying t2 = some (.slice e2)) (hi : cfg.P.info? e = some inf) (hsz : inf.size = s) (hbs : inf.bytes = bs) (hbb : Nat.ble bs 1000000 = true) (hz : zeroO cfg.P e = some z) (hzl : z.cells.length = s) (hs0 : Nat.blt 0 s = true)
    (hx : evl cfg L x = some (fP s a l)) (hy : evl cfg L y = some (.dsl s [x0] c)) (hM : M = m1 :: m2 :: m3 :: (fM s a l ++ M0)) (h1 : sizesAre s [x0] = true) (h2 : scalarsE [x0] = true) (hb : l.length + 1 ≤ 1000000)
    (k : ∀ id v, Rs cfg cur ops n sz os (i + 1) ((d, .own id v s 0 (l ++ [x0]).length none) :: L) (m1 :: m2 :: m3 :: ((id, v, .blk s (l ++ [x0]) true) :: M0)) Q) : Rs cfg cur ops n sz (⟨some d, .call ⟨.builtin .append, #[x, y], #[t, t2]⟩, ty, ps, af, none⟩ :: os) i L M Q :=
  Rs.appendF [m1, m2, m3] hlt hu hu2 hi hsz hz hzl (Nat.le_of_ble_eq_true hs0) hx hy hM h1 h2 (by
    have h1 := Nat.le_of_ble_eq_true hbb
    rw [hbs]
    have h2 : (l.length + 1) * bs ≤ 1000000 * 1000000 := Nat.mul_le_mul hb h1
    constructor <;> omega) k
theorem Dp.f {H : Heap} {s : Nat} {a : Option (Nat × Nat)} {l : List PV} (hH : CvH H M) (hm : ∀ x ∈ fM s a l, x ∈ M) (hl : ∀ p ∈ l, plainP p = true) (hn : l.length ≤ 90000) : ∃ q, IsSl s l q ∧ Dp 95000 H (fP s a l) q := by
  cases a with
  | none => exact ⟨_, dsl_is, Dp.plain 95000 rfl rfl⟩
  | some iv =>
    obtain ⟨id, v⟩ := iv
    refine ⟨.dsl s l none, dsl_is, fun k hk => ?_⟩
    have ho := hH.g (hm _ (by unfold fM; exact .head _))
    cases k with
    | zero => omega
    | succ k =>
      unfold deepen fP
      dsimp only
      rw [ho]
      dsimp only
      rw [if_pos ⟨rfl, by omega⟩, List.drop_zero, List.take_length, deepenL_id l k (fun p hp k hk => deepen_pl (hl p hp) hk) (by omega)]
theorem Ps.finX {fn : Func} {Q : PV → Prop} {e : Ex} {l : List PV} (he : isEnd e = true) (hr : ResR cfg L M fn.results.toList l) (hd : ∀ H, CvH H M → ∃ q, deepen H fuelD (one l) = some q ∧ Q q) : Ps sz L M (FinQ cfg fn Q e) :=
  fun env H m h1 h2 h3 => by
    obtain ⟨q, hq, hQ⟩ := hd H h2
    exact ⟨he, one l, q, resA_of (hr.ok (s := ⟨env, H, m, sz⟩) h1 h2), hq, hQ⟩
theorem Rs.min {d : Tmp} {x y : Operand} {ats : Array TypeId} {ik jk : IntKind} {a b : Int} (hlt : Nat.blt d sz = true) (hx : evl cfg L x = some (.lit (.int ik a))) (hy : evl cfg L y = some (.lit (.int jk b))) (k : Rs cfg cur ops n sz os (i + 1) ((d, .lit (.int ik (if b < a then b else a))) :: L) M Q) :
    Rs cfg cur ops n sz (⟨some d, .call ⟨.builtin .min, #[x, y], ats⟩, ty, ps, af, none⟩ :: os) i L M Q := by
  refine Rs.pure rfl rfl hlt rfl rfl (fun env hE => ?_) k
  unfold aopPure
  dsimp only
  refine (lit2 (v := .int ik (if b < a then b else a)) rfl rfl (evl_ok hE hx) rfl (evl_ok hE hy) rfl ?_).trans rfl
  intro ρ h1 h2
  simp only [execOp, resolve, invoke, builtin, bind_pure_comp, List.map_toArray, List.map_cons, List.map_nil, pure_bind]
  show pureRun cfg.P (Builtin.min_ ats ty #[ρ x, ρ y] >>= fun r => Pure.pure (Next.value r)) = _
  rw [h1, h2]
  rfl
theorem Rs.max {d : Tmp} {x y : Operand} {ats : Array TypeId} {ik jk : IntKind} {a b : Int} (hlt : Nat.blt d sz = true) (hx : evl cfg L x = some (.lit (.int ik a))) (hy : evl cfg L y = some (.lit (.int jk b))) (k : Rs cfg cur ops n sz os (i + 1) ((d, .lit (.int ik (if b > a then b else a))) :: L) M Q) :
    Rs cfg cur ops n sz (⟨some d, .call ⟨.builtin .max, #[x, y], ats⟩, ty, ps, af, none⟩ :: os) i L M Q := by
  refine Rs.pure rfl rfl hlt rfl rfl (fun env hE => ?_) k
  unfold aopPure
  dsimp only
  refine (lit2 (v := .int ik (if b > a then b else a)) rfl rfl (evl_ok hE hx) rfl (evl_ok hE hy) rfl ?_).trans rfl
  intro ρ h1 h2
  simp only [execOp, resolve, invoke, builtin, bind_pure_comp, List.map_toArray, List.map_cons, List.map_nil, pure_bind]
  show pureRun cfg.P (Builtin.max_ ats ty #[ρ x, ρ y] >>= fun r => Pure.pure (Next.value r)) = _
  rw [h1, h2]
  rfl
theorem IsSl.all {s : Nat} {l : List PV} {p : PV} (h : IsSl s l p) : deepB p = true ∧ p.scalar = true ∧ p.cells = [p] ∧ cellP p = true ∧ plainP p = true := by
  rcases h with ⟨c, rfl⟩ | ⟨_, rfl⟩ <;> exact ⟨rfl, rfl, rfl, rfl, rfl⟩
def cellsOf : List (Nat × PV) → List (Nat × List PV)
  | [] => []
  | (i, p) :: r => (i, p.cells) :: cellsOf r
def fillB (place : Nat → Option (Nat × Nat)) : List PV → List (Nat × List PV) → Option (List PV)
  | cells, [] => some cells
  | cells, (i, p) :: rest =>
    match place i with
    | none => none
    | some (off, size) => if p.length = size ∧ off + size ≤ cells.length then fillB place (splice cells off p) rest else none
theorem fillA_eq (place : Nat → Option (Nat × Nat)) : ∀ (qs : List (Nat × PV)) (cells : List PV), fillA place cells qs = fillB place cells (cellsOf qs)
  | [], _ => rfl
  | (i, p) :: r, cells => by
    unfold cellsOf fillA fillB
    split
    · rename_i h; rw [h]
    · rename_i h; rw [h]; dsimp only; rw [fillA_eq place r]
def mkAggB (P : Program) (t : TypeId) (cs : List (Nat × List PV)) : Option (List PV) :=
  match zeroO P t, P.underlying t with
  | some z, some (.struct fields) =>
    match sizesOk P fields.toList with
    | true => fillB (placeS P fields) z.cells cs
    | false => none
  | some z, some (.array _ elem) =>
    match szO P elem with
    | some size => fillB (fun i => some (i * size, size)) z.cells cs
    | none => none
  | _, _ => none
theorem mkAgg_eq {P : Program} {t : TypeId} {qs : List (Nat × PV)} : mkAgg P t qs = mkAggB P t (cellsOf qs) := by
  unfold mkAgg mkAggB
  cases hz : zeroO P t with
  | none => rfl
  | some z =>
    cases hu : P.underlying t with
    | none => rfl
    | some u =>
      cases u with
      | struct fields =>
        dsimp only
        cases sizesOk P fields.toList with
        | true => exact fillA_eq _ _ _
        | false => rfl
      | array n elem =>
        dsimp only
        cases szO P elem with
        | some s => exact fillA_eq _ _ _
        | none => rfl
      | _ => rfl
theorem Rs.buildB {d : Tmp} {t : TypeId} {parts : Array (Nat × Operand)} {qs : List (Nat × PV)} {cs : List (Nat × List PV)} {l : List PV} (hlt : Nat.blt d sz = true) (hx : evpl cfg L parts.toList = some qs) (hc : cellsOf qs = cs) (hl : mkAggB cfg.P t cs = some l) (k : Rs cfg cur ops n sz os (i + 1) ((d, .agg l) :: L) M Q) :
    Rs cfg cur ops n sz (⟨some d, .build t parts, ty, ps, af, none⟩ :: os) i L M Q := Rs.build hlt hx (by rw [mkAgg_eq, hc, hl]) k
theorem cp_lit {v : Value} : cellP (.lit v) = true := rfl
theorem cp_dsl {s : Nat} {l : List PV} {c : Option Nat} : cellP (.dsl s l c) = true := rfl
theorem sc_int {k : IntKind} {n : Int} : PV.scalar (.lit (.int k n)) = true := rfl
theorem sc_str {b : ByteArray} : PV.scalar (.lit (.string b)) = true := rfl
theorem sc_bool {b : Bool} : PV.scalar (.lit (.bool b)) = true := rfl
theorem sc_nil {a : Option Addr} {n c : Nat} : PV.scalar (.lit (.slice a n c)) = true := rfl
theorem sc_dsl {s : Nat} {l : List PV} {c : Option Nat} : PV.scalar (.dsl s l c) = true := rfl
theorem sc_own {i v s o l : Nat} {c : Option Nat} : PV.scalar (.own i v s o l c) = true := rfl
theorem sc_g {s : Nat} {a : Option (Nat × Nat)} {l : List PV} : PV.scalar (gP s a l) = true := by cases a <;> rfl
theorem sc_f {s : Nat} {a : Option (Nat × Nat)} {l : List PV} : PV.scalar (fP s a l) = true := by cases a <;> rfl
theorem cl_g {s : Nat} {a : Option (Nat × Nat)} {l : List PV} : PV.cells (gP s a l) = [gP s a l] := by cases a <;> rfl
theorem cl_f {s : Nat} {a : Option (Nat × Nat)} {l : List PV} : PV.cells (fP s a l) = [fP s a l] := by cases a <;> rfl
theorem storeB_ag {P : Program} {t : TypeId} {es vs : List PV} {n : Nat} (hn : szO P t = some n) (h1 : Nat.beq vs.length n = true) (h2 : Nat.beq es.length n = true) (hs : scalars vs = true) : storeB P t [.agg es] 0 0 (.agg vs) = some [.agg vs] := by
  have h1 := Nat.eq_of_beq_eq_true h1
  have h2 := Nat.eq_of_beq_eq_true h2
  unfold storeB
  rw [hn]
  dsimp only [List.getElem?_cons_zero]
  rw [if_pos (by exact ⟨h1, (by show 0 + n ≤ es.length; omega), hs⟩)]
  simp only [splice, PV.cells, List.take_zero, List.nil_append, Nat.zero_add, List.set_cons_zero]
  rw [List.drop_eq_nil_of_le (by omega), List.append_nil]
theorem storeB_fld {P : Program} {t : TypeId} {es : List PV} {v : PV} {off : Nat} (hn : szO P t = some 1) (hv : v.cells = [v]) (hs : v.scalar = true) (ho : Nat.blt off es.length = true) : storeB P t [.agg es] 0 off v = some [.agg (es.set off v)] := by
  have ho : off < es.length := Nat.le_of_ble_eq_true ho
  unfold storeB
  rw [hn]
  dsimp only [List.getElem?_cons_zero]
  rw [if_pos ⟨by rw [hv]; rfl, by show off + 1 ≤ es.length; omega, by rw [hv]; simp [scalars, hs]⟩]
  simp only [splice, hv, List.length_singleton, List.set_cons_zero]
  rw [List.singleton_append, List.set_eq_take_append_cons_drop, if_pos ho]
end Go.Proofs.YthabndifdgafbaaGreatDoor.RV
end
section
set_option linter.unusedVariables false
namespace Go.Proofs.YthabndifdgafbaaGreatDoor.RV
variable {cfg : Cfg} {cur : FuncId} {sz : Nat} {L : Fr} {M : Mem} {ops : Array Oper} {n i : Nat} {os : List Oper} {Q : St → Prop} {R : Ex → St → Prop} {ty : TypeId} {ps : String} {af : Array Edge}
abbrev Ents := List (Int × PV × Nat)
def mapO (ik : IntKind) (ms : Ents) (clock : Nat) : HObj := .mp (ms.map fun e => .int ik e.1) (ms.map fun e => e.2.1) (ms.map fun e => e.2.2) clock
def mget : Ents → Int → Option PV
  | [], _ => none
  | e :: r, n => if n = e.1 then some e.2.1 else mget r n
def midx : Ents → Int → Nat → Option Nat
  | [], _, _ => none
  | e :: r, n, i => if n = e.1 then some i else midx r n (i + 1)
theorem run_und {P : Program} {t : TypeId} {u : TypeDesc} (h : P.underlying t = some u) : pureRun P (Go.underlying t) = some u := by
  show pureRun P (match P.underlying t with | some u => _ | none => _) = _
  rw [h]
  rfl
theorem findNow_int {ik jk : IntKind} {n : Int} : ∀ (ms : Ents) (i : Nat), Instr.findNow (.int jk) (.int ik n) (entsOf (ms.map fun e => .int ik e.1) (ms.map fun e => e.2.2)) i = some ((midx ms n i).map fun j => (j, undef))
  | [], i => rfl
  | e :: r, i => by
    show Instr.findNow _ _ (⟨.int ik e.1, undef, e.2.2⟩ :: entsOf (r.map fun e => .int ik e.1) (r.map fun e => e.2.2)) i = _
    unfold Instr.findNow midx
    simp only [Instr.sameNow, if_true]
    by_cases h : n = e.1
    · subst h
      simp
    · rw [if_neg h, show (n == e.1) = false by simpa using h]
      exact findNow_int r (i + 1)
theorem findE_int {P : Program} {kt : TypeId} {ik jk : IntKind} {n : Int} {ms : Ents} (hk : P.underlying kt = some (.int jk)) : findE P kt (.int ik n) (ms.map fun e => .int ik e.1) (ms.map fun e => e.2.2) = some (midx ms n 0) := by
  unfold findE Instr.findKey
  rw [pureRun_bind, run_und hk]
  dsimp only [Option.bind]
  rw [findNow_int]
  cases midx ms n 0 <;> rfl
theorem keyOk_int {P : Program} {kt : TypeId} {ik jk : IntKind} {n : Int} {b : Bool} (hk : P.underlying kt = some (.int jk)) : keyOk P b kt (.int ik n) = true := by
  unfold keyOk
  rw [show (10000 : Nat) = 9999 + 1 from rfl]
  unfold Instr.checkKey
  rw [pureRun_bind, run_und hk]
  rfl
theorem midx_get : ∀ (ms : Ents) (n : Int) (i : Nat), (match midx ms n i with | some j => i ≤ j ∧ ∃ e, ms[j - i]? = some e ∧ e.1 = n ∧ mget ms n = some e.2.1 | none => mget ms n = none)
  | [], n, i => rfl
  | e :: r, n, i => by
    unfold midx mget
    by_cases h : n = e.1
    · rw [if_pos h, if_pos h]
      exact ⟨Nat.le_refl _, e, by simp, h.symm, rfl⟩
    · rw [if_neg h, if_neg h]
      have := midx_get r n (i + 1)
      split at this
      · rename_i j hj
        obtain ⟨h1, e', h2, h3, h4⟩ := this
        refine ⟨by omega, e', ?_, h3, h4⟩
        rw [show j - i = j - (i + 1) + 1 by omega, List.getElem?_cons_succ]
        exact h2
      · exact this
theorem lookupA_int {H : Heap} {t kt vt : TypeId} {ik jk : IntKind} {ms : Ents} {clock id v : Nat} {x : Int} {z : PV} (hu : cfg.P.underlying t = some (.map kt vt)) (hk : cfg.P.underlying kt = some (.int jk)) (hz : zeroO cfg.P vt = some z) (ho : obj H id v = some (mapO ik ms clock)) :
    lookupA cfg.P H t (.map id v) (.int ik x) = some ((mget ms x).getD z, (mget ms x).isSome) := by
  unfold lookupA
  rw [hu]
  dsimp only
  unfold mapOf
  dsimp only
  rw [ho]
  unfold mapO
  dsimp only
  rw [keyOk_int hk, if_pos rfl, findE_int hk]
  have := midx_get ms x 0
  cases h : midx ms x 0 with
  | none =>
    rw [h] at this
    dsimp only at this ⊢
    rw [hz, this]
    rfl
  | some j =>
    rw [h] at this
    obtain ⟨_, e, h2, _, h4⟩ := this
    dsimp only
    rw [List.getElem?_map, show ms[j]? = some e by simpa using h2, h4]
    rfl
theorem Rs.lookup {d : Tmp} {x y : Operand} {t kt vt : TypeId} {ik jk : IntKind} {ms : Ents} {clock id v : Nat} {k0 : Int} {z : PV} (j : Nat) (hlt : Nat.blt d sz = true) (hu : cfg.P.underlying t = some (.map kt vt)) (hk : cfg.P.underlying kt = some (.int jk)) (hz : zeroO cfg.P vt = some z) (hx : evl cfg L x = some (.map id v)) (hy : evl cfg L y = some (.lit (.int ik k0))) (hj : M[j]? = some (id, v, mapO ik ms clock))
    (k : Rs cfg cur ops n sz os (i + 1) ((d, (mget ms k0).getD z) :: L) M Q) : Rs cfg cur ops n sz (⟨some d, .lookup t x y false, ty, ps, af, none⟩ :: os) i L M Q := by
  refine Rs.read rfl rfl hlt rfl rfl (fun env H hE hH => ?_) k
  unfold aopRead
  dsimp only
  rw [evl_ok hE hx, evl_ok hE hy]
  dsimp only [toVal]
  rw [lookupA_int hu hk hz (hH.obj hj)]
theorem Rs.makeMap {d : Tmp} {t : TypeId} (hlt : Nat.blt d sz = true) (hm : isMapT cfg.P t = true) (ik : IntKind) (k : ∀ g, Rs cfg cur ops n sz os (i + 1) ((d, .map g 0) :: L) ((g, 0, mapO ik [] 0) :: M) Q) :
    Rs cfg cur ops n sz (⟨some d, .makeMap t none, ty, ps, af, none⟩ :: os) i L M Q :=
  Rs.new (pf := fun g => .map g 0) (ob := mapO ik [] 0) rfl rfl hlt rfl rfl (fun env id hE => by unfold aopNew; dsimp only; rw [hm, if_pos rfl]; rfl) k
def GoodE (ms : Ents) (c : Nat) : Prop := (ms.map (·.2.2)).Nodup ∧ ∀ b ∈ ms.map (·.2.2), b < c
theorem GoodE.nil : GoodE [] 0 := ⟨List.nodup_nil, fun b hb => by cases hb⟩
structure Upd (ms ms' : Ents) (x : Int) (p : PV) : Prop where
  get : ∀ q, mget ms' q = if q = x then some p else mget ms q
  nodup : (ms.map (·.1)).Nodup → (ms'.map (·.1)).Nodup
  len : ms'.length = if mget ms x = none then ms.length + 1 else ms.length
theorem mget_app : ∀ (ms : Ents) (x : Int) (p : PV) (c : Nat) (q : Int), mget ms x = none → mget (ms ++ [(x, p, c)]) q = if q = x then some p else mget ms q
  | [], x, p, c, q, _ => rfl
  | e :: r, x, p, c, q, h => by
    unfold mget at h
    split at h
    · cases h
    · rename_i hne
      show (if q = e.1 then some e.2.1 else mget (r ++ [(x, p, c)]) q) = if q = x then some p else (if q = e.1 then some e.2.1 else mget r q)
      rw [mget_app r x p c q h]
      by_cases hq : q = e.1
      · rw [if_pos hq, if_pos hq, if_neg (fun hh => hne (hh.symm.trans hq))]
      · rw [if_neg hq, if_neg hq]
theorem mget_set : ∀ (ms : Ents) (x : Int) (p : PV) (i j : Nat), midx ms x i = some j → (∀ q, mget (ms.set (j - i) (x, p, (ms[j - i]?.map (·.2.2)).getD 0)) q = if q = x then some p else mget ms q) ∧ (ms.set (j - i) (x, p, (ms[j - i]?.map (·.2.2)).getD 0)).map (·.1) = ms.map (·.1)
  | [], _, _, _, _, h => by cases h
  | e :: r, x, p, i, j, h => by
    unfold midx at h
    split at h
    · rename_i hx
      cases h
      rw [Nat.sub_self, List.set_cons_zero]
      refine ⟨fun q => ?_, by simp [hx]⟩
      show (if q = x then some p else mget r q) = if q = x then some p else (if q = e.1 then some e.2.1 else mget r q)
      by_cases hq : q = x
      · rw [if_pos hq, if_pos hq]
      · rw [if_neg hq, if_neg hq, if_neg (fun hh => hq (hh.trans hx.symm))]
    · rename_i hx
      have hle : i + 1 ≤ j := by
        have := midx_get r x (i + 1)
        rw [h] at this
        exact this.1
      obtain ⟨h1, h2⟩ := mget_set r x p (i + 1) j h
      rw [show j - i = (j - (i + 1)) + 1 by omega]
      simp only [List.set_cons_succ, List.getElem?_cons_succ, List.map_cons]
      refine ⟨fun q => ?_, by rw [h2]⟩
      show (if q = e.1 then some e.2.1 else mget (r.set _ _) q) = if q = x then some p else (if q = e.1 then some e.2.1 else mget r q)
      rw [h1 q]
      by_cases hq : q = e.1
      · rw [if_pos hq, if_pos hq, if_neg (fun hh => hx (hh.symm.trans hq))]
      · rw [if_neg hq, if_neg hq]
theorem mget_none_mem : ∀ (ms : Ents) (x : Int), mget ms x = none → x ∉ ms.map (·.1)
  | [], _, _ => by simp
  | e :: r, x, h => by
    unfold mget at h
    split at h
    · cases h
    · rename_i hne
      rw [List.map_cons, List.mem_cons]
      exact fun hh => hh.elim hne (mget_none_mem r x h)
theorem updateA_int {H : Heap} {t kt vt : TypeId} {ik jk : IntKind} {ms : Ents} {clock id v : Nat} {x : Int} {p : PV} (hu : cfg.P.underlying t = some (.map kt vt)) (hk : cfg.P.underlying kt = some (.int jk)) (ho : obj H id v = some (mapO ik ms clock)) :
    ∃ ms' clock', Upd ms ms' x p ∧ (GoodE ms clock → GoodE ms' clock') ∧ updateA cfg.P H t (.map id v) (.int ik x) p = some [(id, v, mapO ik ms' clock')] := by
  unfold updateA
  rw [hu]
  dsimp only
  rw [ho]
  unfold mapO
  dsimp only
  rw [keyOk_int hk, if_pos rfl, findE_int hk]
  have hg := midx_get ms x 0
  cases h : midx ms x 0 with
  | none =>
    rw [h] at hg
    dsimp only at hg ⊢
    refine ⟨ms ++ [(x, p, clock)], clock + 1, ⟨fun q => mget_app ms x p clock q hg, fun hn => ?_, by rw [hg, if_pos rfl]; simp⟩, fun hG => ?_, by simp⟩
    rotate_left
    · refine ⟨?_, fun b hb => ?_⟩
      · rw [List.map_append]
        refine List.nodup_append.2 ⟨hG.1, by simp, fun a ha b hb => ?_⟩
        rw [List.map_singleton, List.mem_singleton] at hb
        have := hG.2 a ha
        rw [hb]
        exact fun e => by have e : a = clock := e; omega
      · rw [List.map_append, List.mem_append] at hb
        rcases hb with hb | hb
        · have := hG.2 b hb; omega
        · rw [List.map_singleton, List.mem_singleton] at hb
          rw [hb]
          exact Nat.lt_succ_self _
    rw [List.map_append]
    refine List.nodup_append.2 ⟨hn, by simp, fun a ha b hb => ?_⟩
    rw [List.map_singleton, List.mem_singleton] at hb
    rw [hb]
    exact fun e => mget_none_mem ms x hg (by have e : a = x := e; rw [← e]; exact ha)
  | some j =>
    rw [h] at hg
    obtain ⟨_, e, h2, h3, h4⟩ := hg
    have h2 : ms[j]? = some e := by simpa using h2
    obtain ⟨g1, g2⟩ := mget_set ms x p 0 j h
    rw [Nat.sub_zero] at g1 g2
    dsimp only
    rw [List.getElem?_map, h2]
    dsimp only [Option.map]
    rw [h2] at g1 g2
    dsimp only [Option.map, Option.getD] at g1 g2
    have hb : Instr.sameBits 10000 (.int ik e.1) (.int ik x) = true := by
      rw [h3]
      unfold Instr.sameBits
      simp
    rw [if_pos hb]
    refine ⟨ms.set j (x, p, e.2.2), clock, ⟨g1, fun hn => by rw [g2]; exact hn, by rw [h4, if_neg (by simp)]; simp⟩, ?_⟩
    have hlt := (List.getElem?_eq_some_iff.1 h2).1
    have hbs : (ms.map fun e => e.2.2).set j e.2.2 = ms.map fun e => e.2.2 := by
      refine List.ext_getElem? fun q => ?_
      rw [List.getElem?_set]
      by_cases hq : j = q
      · subst hq
        rw [if_pos rfl, if_pos (by simpa using hlt), List.getElem?_map, h2]
        rfl
      · rw [if_neg hq]
    refine ⟨fun hG => ?_, ?_⟩
    · unfold GoodE
      rw [List.map_set]
      dsimp only
      rw [hbs]
      exact hG
    simp only [List.map_set]
    rw [hbs]
theorem Rs.mapUpdate {x y z : Operand} {t kt vt : TypeId} {ik jk : IntKind} {ms : Ents} {clock id v : Nat} {k0 : Int} {p : PV} (j : Nat) (hu : cfg.P.underlying t = some (.map kt vt)) (hk : cfg.P.underlying kt = some (.int jk)) (hx : evl cfg L x = some (.map id v)) (hy : evl cfg L y = some (.lit (.int ik k0))) (hz : evl cfg L z = some p) (hj : M[j]? = some (id, v, mapO ik ms clock))
    (k : ∀ ms' clock', Upd ms ms' k0 p → (GoodE ms clock → GoodE ms' clock') → Rs cfg cur ops n sz os (i + 1) L (M.set j (id, v, mapO ik ms' clock')) Q) : Rs cfg cur ops n sz (⟨none, .mapUpdate t x y z, ty, ps, af, none⟩ :: os) i L M Q := by
  intro base env H m hn hm h1 h2 h3
  obtain ⟨ms', clock', hU, hB, hA⟩ := updateA_int (p := p) (x := k0) hu hk (h2.obj hj)
  refine Rs.write (M' := M.set j (id, v, mapO ik ms' clock')) (p := undefP) rfl rfl rfl (fun env H fr hE hH hf => ?_) (k ms' clock' hU hB) base env H m hn hm h1 h2 h3
  have hsame : updateA cfg.P H t (.map id v) (.int ik k0) p = some [(id, v, mapO ik ms' clock')] := by
    have e1 : ∀ H : Heap, obj H id v = some (mapO ik ms clock) → updateA cfg.P H t (.map id v) (.int ik k0) p = updateA cfg.P (Tr.put .e id (v, mapO ik ms clock)) t (.map id v) (.int ik k0) p := by
      intro H ho
      have ho2 : obj (Tr.put .e id (v, mapO ik ms clock)) id v = some (mapO ik ms clock) := by
        unfold obj
        rw [put_get, if_pos rfl]
        simp
      unfold updateA
      rw [hu]
      dsimp only
      rw [ho, ho2]
    rw [e1 H (hH.obj hj), ← e1 _ (h2.obj hj)]
    exact hA
  refine ⟨[(id, v, mapO ik ms' clock')], ?_, hH.set hj v _, fun i' hi hg => ?_⟩
  · unfold aopWrite
    dsimp only
    rw [evl_ok hE hx, evl_ok hE hy, evl_ok hE hz]
    dsimp only [toVal]
    rw [hsame]
  · show (H.put id _).get i' = none
    rw [put_get, if_neg (fun e => ?_)]
    · exact hg
    · have := hH.2 _ _ _ (List.mem_of_getElem? hj)
      rw [← e, hg] at this
      cases this
end Go.Proofs.YthabndifdgafbaaGreatDoor.RV
end
section
namespace Go.Proofs.YthabndifdgafbaaGreatDoor.RV
abbrev i64P (n : Int) : PV := .lit (.int .i64 n)
abbrev i32P (n : Int) : PV := .lit (.int .i32 n)
abbrev i16P (n : Int) : PV := .lit (.int .i16 n)
abbrev u32P (n : Int) : PV := .lit (.int .u32 n)
abbrev u8P (n : Int) : PV := .lit (.int .u8 n)
abbrev boolP (b : Bool) : PV := .lit (.bool b)
abbrev strP (s : ByteArray) : PV := .lit (.string s)
abbrev nilP : PV := .lit (.slice none 0 0)
structure Acc where
  code : Int
  name : ByteArray
  kind : Int
  parent : Int
structure Ln where
  acc : Int
  ent : Int
  ctr : Int
  amt : Int
structure Jn where
  day : Int
  lines : List Ln
def nmByte (c : UInt8) : Bool := (97 ≤ c.toNat && c.toNat ≤ 122) || (65 ≤ c.toNat && c.toNat ≤ 90) || (48 ≤ c.toNat && c.toNat ≤ 57) || c.toNat == 32 || c.toNat == 46
def nmOk (l : List UInt8) : Bool := decide (1 ≤ l.length) && decide (l.length ≤ 30) && !(l.head? == some 32) && !(l.getLast? == some 32) && l.all nmByte
def itoaA : List PV → Option PV
  | [.lit (.int .i64 n)] => if -9223372036854775808 ≤ n ∧ n ≤ 9223372036854775807 then some (.lit (.string ⟨(Lib.itoa n).toArray⟩)) else none
  | _ => none
def itoaS (n : Int) : ByteArray := ⟨(Lib.itoa n).toArray⟩
theorem itoaA_ok {n : Int} (h : -9223372036854775808 ≤ n ∧ n ≤ 9223372036854775807) : itoaA [i64P n] = some (strP (itoaS n)) := if_pos h
def nameA : List PV → Option PV
  | [.lit (.string s)] => if s.size ≤ 140737488351232 then some (boolP (nmOk s.data.toList)) else none
  | _ => none
end Go.Proofs.YthabndifdgafbaaGreatDoor.RV
end
section
namespace Go.Proofs.YthabndifdgafbaaGreatDoor.RV
open Go.RowKit Go.Deep Go.ChangeShapes Go.WideShapes
set_option linter.unusedVariables false
def noO : Nat → Prop := fun _ => False
def Opns (P : Program) (t : TypeId) (D : PV → Prop) : Prop :=
  ∀ {H : Type} (enc : TypeId × Value → H) (w : World) (base : Nat) (sp : Nat → Bool) (held : Bool) (fuel : Nat) (cs : List Value) (x : DataW H × List MemPlace),
    DataW.trod enc P w base sp held fuel t cs = some x → (∀ m ∈ x.1.weights P t, m ≤ reachBytes) → ∃ p y, D p ∧ V w noO iota0 p y ∧ y.cells.toList = cs ∧ VL w noO iota0 p.cells cs
theorem op_int {P : Program} {t : TypeId} {k : IntKind} (ht : P.underlying t = some (.int k)) : Opns P t (fun p => ∃ n, p = .lit (.int k n) ∧ (Lit.int k n).wf = true) := by
  intro H enc w base sp held fuel cs x h _
  obtain ⟨n, rfl, _, hw⟩ := DataW.trod_int ht h
  exact ⟨.lit (.int k n), .int k n, ⟨n, rfl, hw⟩, V.lit_iff.2 rfl, rfl, VL.cons_iff.2 ⟨_, _, rfl, V.lit_iff.2 rfl, VL.nil_iff.2 rfl⟩⟩
theorem weights_all {H : Type} {P : Program} {e : TypeId} : ∀ (l : List (DataW H)) (d : DataW H), d ∈ l → ∀ n ∈ d.weights P e, n ∈ DataW.weightsAll P e l
  | x :: l, d, hd, n, hn => by
    simp only [DataW.weightsAll, List.mem_append]
    rcases List.mem_cons.1 hd with rfl | hd
    · exact .inl hn
    · exact .inr (weights_all l d hd n hn)
theorem choose_list {α : Type} {p : Nat → α → Prop} : ∀ n : Nat, (∀ i, i < n → ∃ a, p i a) → ∃ l : List α, l.length = n ∧ ∀ i a, l[i]? = some a → p i a
  | 0, _ => ⟨[], rfl, fun i a h => by simp at h⟩
  | n + 1, h => by
    obtain ⟨l, hl, hp⟩ := choose_list n (fun i hi => h i (by omega))
    obtain ⟨a, ha⟩ := h n (by omega)
    refine ⟨l ++ [a], by simp [hl], fun i b hb => ?_⟩
    rcases Nat.lt_trichotomy i n with hi | rfl | hi
    · rw [List.getElem?_append_left (by omega)] at hb
      exact hp i b hb
    · rw [List.getElem?_append_right (by omega), hl, Nat.sub_self] at hb
      simp at hb
      rw [← hb]
      exact ha
    · rw [List.getElem?_eq_none (by simp; omega)] at hb
      cases hb
theorem cell_spot {w : World} {a : Addr} {v : Value} (h : w.cell? a = some v) : ∃ cs t fz, a = ⟨a.block, a.off, none⟩ ∧ w.heap[a.block]? = some (.cells cs t fz) ∧ cs[a.off]? = some v := by
  unfold World.cell? at h
  split at h
  · rename_i cs t fz hb
    split at h
    · cases h
    · rename_i hs
      refine ⟨cs, t, fz, ?_, hb, h⟩
      obtain ⟨b, o, s⟩ := a
      cases s with
      | none => rfl
      | some s => simp at hs
  · cases h
theorem op_slice {P : Program} {t e : TypeId} {D : PV → Prop} {s : Nat} (ht : P.underlying t = some (.slice e)) (hd : Opns P e D) (hsz : P.cellsOf e = s) (hs0 : 0 < s) (hb0 : 0 < P.bytesOf e) :
    Opns P t (fun p => ∃ l, p = .dsl s l none ∧ l.length ≤ 140737488351232 ∧ ∀ q ∈ l, D q) := by
  intro H enc w base sp held fuel cs x h hwt
  rcases open_slice ht h with ⟨rfl, _⟩ | ⟨a, len, cap, m, n, Dt, Pl, rfl, _, hl, hm, hmm, hx, hi⟩
  · have hv : V w noO iota0 (.dsl s [] none) (.slice none 0 0) := V.dsl_iff.2 ⟨none, 0, rfl, Nat.le_refl _, fun k h => (by cases h), .inl rfl⟩
    exact ⟨.dsl s [] none, .slice none 0 0, ⟨[], rfl, by simp, by simp⟩, hv, rfl, VL.cons_iff.2 ⟨_, _, rfl, hv, VL.nil_iff.2 rfl⟩⟩
  · have hlm : len ≤ m := by rw [hmm]; split <;> omega
    have hlb : len ≤ 140737488351232 := by
      have h0 := hwt (((List.range len).map Dt).length * P.bytesOf e + ((m - len) * P.bytesOf e)) (by
        rw [hx]
        simp only [DataW.weights, ht, List.mem_cons]
        left
        rw [← Nat.add_mul]
        congr 1
        simp)
      have h1 : len * 1 ≤ len * P.bytesOf e := Nat.mul_le_mul_left _ hb0
      have h2 : reachBytes = 140737488351232 := rfl
      simp only [List.length_map, List.length_range] at h0
      omega
    obtain ⟨l, hll, hp⟩ := choose_list (p := fun i (b : PV) => D b ∧ ∃ y, V w noO iota0 b y ∧ ∃ c, y.cells.toList = c ∧ c.length = s ∧ ∀ j u, c[j]? = some u → w.cell? (a.add (i * s + j)) = some u) len (fun i him => by
      obtain ⟨c, hc, htr⟩ := hi i (by omega)
      obtain ⟨b, y, hb, hv, hy, _⟩ := hd enc w base sp held n c _ htr (fun q hq => hwt q (by
        rw [hx]
        simp only [DataW.weights, ht, List.mem_cons, List.mem_append]
        exact .inr (.inl (weights_all _ (Dt i) (List.mem_map.2 ⟨i, List.mem_range.2 him, rfl⟩) q hq))))
      obtain ⟨_, hcl, hat⟩ := World.cells?_some hc
      refine ⟨b, hb, y, hv, c, hy, by rw [hcl, hsz], fun j u hj => ?_⟩
      have hjl : j < c.length := (List.getElem?_eq_some_iff.1 hj).1
      have := hat j (by omega)
      rw [Go.Deep.add_add, hsz] at this
      rw [this, hj])
    have hv : V w noO iota0 (.dsl s l none) (.slice (some a) len cap) := by
      refine V.dsl_iff.2 ⟨some a, cap, by rw [hll], by omega, fun k h => (by cases h), ?_⟩
      by_cases hl0 : l = []
      · exact .inl hl0
      · right
        have hpos : 0 < l.length := List.length_pos_iff.2 hl0
        obtain ⟨x0, hx0⟩ : ∃ x0, l[0]? = some x0 := ⟨l[0], List.getElem?_eq_getElem hpos⟩
        obtain ⟨_, y0, _, c0, hy0, hc0, hat0⟩ := hp 0 x0 hx0
        obtain ⟨u0, hu0⟩ : ∃ u0, c0[0]? = some u0 := ⟨c0[0], List.getElem?_eq_getElem (by omega)⟩
        obtain ⟨ccs, ct, cfz, ha, hb, _⟩ := cell_spot (hat0 0 u0 hu0)
        have hab : (a.add (0 * s + 0)) = a := by rw [Nat.zero_mul]; unfold Addr.add; rw [if_pos rfl]
        rw [hab] at ha hb
        refine ⟨a.block, a.off, by rw [← ha], id, ?_⟩
        refine VE.of_get fun i q hq => ?_
        obtain ⟨_, y, hv, c, hy, hc, hat⟩ := hp i q hq
        refine ⟨y, hv, by rw [← Array.length_toList, hy, hc], ccs, ct, cfz, hb, fun j u hj => ?_⟩
        rw [hy] at hj
        have := hat j u hj
        obtain ⟨cs2, t2, fz2, _, hb2, hg2⟩ := cell_spot this
        have e1 : (a.add (i * s + j)).block = a.block := by unfold Addr.add; split <;> rfl
        have e2 : (a.add (i * s + j)).off = a.off + (i * s + j) := by unfold Addr.add; split <;> first | rfl | omega
        rw [e1, hb] at hb2
        cases hb2
        rw [e2] at hg2
        rw [show a.off + i * s + j = a.off + (i * s + j) by omega]
        exact hg2
    exact ⟨.dsl s l none, .slice (some a) len cap, ⟨l, rfl, by rw [hll]; exact hlb, fun q hq => by
      obtain ⟨i, hi'⟩ := List.getElem?_of_mem hq
      exact (hp i q hi').1⟩, hv, rfl, VL.cons_iff.2 ⟨_, _, rfl, hv, VL.nil_iff.2 rfl⟩⟩
theorem VL_app {w : World} {O : Nat → Prop} {ι : Iota} : ∀ {a b : List PV} {xs ys : List Value}, VL w O ι a xs → VL w O ι b ys → VL w O ι (a ++ b) (xs ++ ys)
  | [], b, xs, ys, h1, h2 => by rw [VL.nil_iff] at h1; subst h1; exact h2
  | p :: a, b, xs, ys, h1, h2 => by
    obtain ⟨x, xs', rfl, hx, hxs⟩ := VL.cons_iff.1 h1
    exact VL.cons_iff.2 ⟨x, xs' ++ ys, rfl, hx, VL_app hxs h2⟩
def Fields (P : Program) : List Field → Nat → List (PV → Prop) → Prop
  | [], _, [] => True
  | f :: fs, o, D :: Ds => f.offset = o ∧ Opns P f.type D ∧ Fields P fs (o + P.cellsOf f.type) Ds
  | _, _, _ => False
def AllD : List (PV → Prop) → List PV → Prop
  | [], [] => True
  | D :: Ds, p :: ps => D p ∧ AllD Ds ps
  | _, _ => False
def widths (P : Program) : List Field → Nat
  | [] => 0
  | f :: fs => P.cellsOf f.type + widths P fs
theorem op_struct {P : Program} {t : TypeId} {fs : Array Field} {Ds : List (PV → Prop)} (ht : P.underlying t = some (.struct fs)) (hf : Fields P fs.toList 0 Ds) (hw : P.cellsOf t = widths P fs.toList) :
    Opns P t (fun p => ∃ ps, AllD Ds ps ∧ p = .agg (ps.flatMap PV.cells)) := by
  intro H enc w base sp held fuel cs x h hwt
  obtain ⟨xs, n, _, hx, hcl, hlen, hfs⟩ := DataW.trod_struct ht h
  have key : ∀ (l : List Field) (o k : Nat) (Ds : List (PV → Prop)), (∀ i f, l[i]? = some f → fs[k + i]? = some f) → Fields P l o Ds → ∃ ps, AllD Ds ps ∧ VL w noO iota0 (ps.flatMap PV.cells) ((cs.drop o).take (widths P l)) := by
    intro l
    induction l with
    | nil =>
      intro o k Ds _ hF
      cases Ds with
      | nil => exact ⟨[], trivial, by simp only [widths, List.take_zero, List.flatMap_nil]; exact VL.nil_iff.2 rfl⟩
      | cons => exact hF.elim
    | cons f l ih =>
      intro o k Ds hl hF
      cases Ds with
      | nil => exact hF.elim
      | cons D Ds =>
        obtain ⟨h1, h2, h3⟩ := hF
        have hk : fs[k]? = some f := hl 0 f rfl
        have ht := hfs k f hk
        have hkl : k < xs.length := by rw [hlen]; exact (Array.getElem?_eq_some_iff.1 hk).1
        rw [List.getElem?_eq_getElem hkl, h1] at ht
        obtain ⟨p, y, hD, hv, hy, hvl⟩ := h2 enc w base sp held n _ _ ht (fun q hq => hwt q (by
          rw [hx]
          simp only [DataW.weights, ‹P.underlying t = some (.struct fs)›]
          exact DataW.weights_mem_each (j := k) (t := f.type) (by rw [List.getElem?_map, show fs.toList[k]? = some f by simpa using hk]; rfl) (by rw [List.getElem?_map, List.getElem?_eq_getElem hkl]; rfl) q hq))
        obtain ⟨ps, hps, hvs⟩ := ih (o + P.cellsOf f.type) (k + 1) Ds (fun i g hg => by rw [show k + 1 + i = k + (i + 1) by omega]; exact hl (i + 1) g (by simpa using hg)) h3
        refine ⟨p :: ps, ⟨hD, hps⟩, ?_⟩
        rw [List.flatMap_cons]
        have e : (cs.drop o).take (widths P (f :: l)) = (cs.drop o).take (P.cellsOf f.type) ++ (cs.drop (o + P.cellsOf f.type)).take (widths P l) := by
          rw [widths, List.take_add, List.drop_drop]
        rw [e]
        exact VL_app hvl hvs
  obtain ⟨ps, hps, hvs⟩ := key fs.toList 0 0 Ds (fun i f h => by rw [Nat.zero_add]; simpa using h) hf
  rw [List.drop_zero, ← hw, ← hcl, List.take_length] at hvs
  exact ⟨.agg (ps.flatMap PV.cells), .agg cs.toArray, ⟨ps, hps, rfl⟩, V.agg_iff.2 ⟨cs.toArray, rfl, by simpa using hvs⟩, rfl, hvs⟩
theorem Opns.mono {P : Program} {t : TypeId} {D E : PV → Prop} (h : Opns P t D) (he : ∀ p, D p → E p) : Opns P t E := by
  intro H enc w base sp held fuel cs x hx hw
  obtain ⟨p, y, hD, hr⟩ := h enc w base sp held fuel cs x hx hw
  exact ⟨p, y, he p hD, hr⟩
def IsI (k : IntKind) (p : PV) : Prop := ∃ n, p = .lit (.int k n) ∧ (Lit.int k n).wf = true
def IsL (s : Nat) (D : PV → Prop) (p : PV) : Prop := ∃ l, p = .dsl s l none ∧ l.length ≤ 140737488351232 ∧ ∀ q ∈ l, D q
theorem lift_enc {α : Type} {enc : α → PV} {Ok : α → Prop} : ∀ l : List PV, (∀ q ∈ l, ∃ a, q = enc a ∧ Ok a) → ∃ as : List α, l = as.map enc ∧ ∀ a ∈ as, Ok a
  | [], _ => ⟨[], rfl, by simp⟩
  | q :: l, h => by
    obtain ⟨a, rfl, ha⟩ := h q (by simp)
    obtain ⟨as, rfl, has⟩ := lift_enc l (fun r hr => h r (by simp [hr]))
    exact ⟨a :: as, rfl, by simpa using ⟨ha, has⟩⟩
theorem IsL.enc {α : Type} {enc : α → PV} {Ok : α → Prop} {s : Nat} {p : PV} (h : IsL s (fun q => ∃ a, q = enc a ∧ Ok a) p) : ∃ as : List α, p = .dsl s (as.map enc) none ∧ as.length ≤ 140737488351232 ∧ ∀ a ∈ as, Ok a := by
  obtain ⟨l, rfl, hl, hq⟩ := h
  obtain ⟨as, rfl, ha⟩ := lift_enc l hq
  exact ⟨as, rfl, by simpa using hl, ha⟩
theorem IsL.ints {k : IntKind} {s : Nat} {p : PV} (h : IsL s (IsI k) p) : ∃ as : List Int, p = .dsl s (as.map (fun n => .lit (.int k n))) none ∧ as.length ≤ 140737488351232 ∧ ∀ a ∈ as, (Lit.int k a).wf = true := IsL.enc h
theorem allD_cons {D : PV → Prop} {Ds : List (PV → Prop)} {ps : List PV} (h : AllD (D :: Ds) ps) : ∃ p r, ps = p :: r ∧ D p ∧ AllD Ds r := by
  cases ps with
  | nil => exact h.elim
  | cons p r => exact ⟨p, r, rfl, h.1, h.2⟩
theorem allD_nil {ps : List PV} (h : AllD [] ps) : ps = [] := by
  cases ps with
  | nil => rfl
  | cons p r => exact h.elim
theorem wf_rng {k : IntKind} {n a b : Int} (h : (Lit.int k n).wf = true) (ha : k.min = a) (hb : k.max = b) : a ≤ n ∧ n ≤ b := by
  subst ha; subst hb; simpa [Lit.wf] using h
end Go.Proofs.YthabndifdgafbaaGreatDoor.RV
end
section
namespace Go.Proofs.YthabndifdgafbaaGreatDoor.RV.ChartMath
set_option linter.unusedVariables false
set_option linter.unusedSimpArgs false
def Sorted (c : List Acc) : Prop := c.Pairwise (fun a b => a.code < b.code)
def find (c : List Acc) (n : Int) : Option Acc := c.find? (fun a => a.code == n)
def way (c : List Acc) : Nat → Int → List Int
  | 0, _ => []
  | k + 1, n => match find c n with
    | none => []
    | some a => n :: way c k a.parent
theorem find_mem {c : List Acc} {n : Int} {a : Acc} (h : find c n = some a) : a ∈ c ∧ a.code = n := by
  unfold find at h
  have h1 := List.mem_of_find?_eq_some h
  have h2 := List.find?_some h
  exact ⟨h1, by simpa using h2⟩
theorem find_none {c : List Acc} {n : Int} (h : find c n = none) : ∀ a ∈ c, a.code ≠ n := by
  unfold find at h
  rw [List.find?_eq_none] at h
  intro a ha e
  exact h a ha (by simp [e])
theorem sorted_inj {c : List Acc} (S : Sorted c) {a b : Acc} (ha : a ∈ c) (hb : b ∈ c) (e : a.code = b.code) : a = b := by
  induction c with
  | nil => cases ha
  | cons x t ih =>
    unfold Sorted at S
    rw [List.pairwise_cons] at S
    rcases List.mem_cons.1 ha with rfl | ha
    · rcases List.mem_cons.1 hb with rfl | hb
      · rfl
      · have := S.1 b hb
        omega
    · rcases List.mem_cons.1 hb with e2 | hb
      · have := S.1 a ha
        rw [← e2] at this
        omega
      · exact ih S.2 ha hb
theorem find_of_mem {c : List Acc} (S : Sorted c) {a : Acc} (ha : a ∈ c) : find c a.code = some a := by
  cases h : find c a.code with
  | none => exact absurd rfl (find_none h a ha)
  | some b =>
    obtain ⟨hb, e⟩ := find_mem h
    rw [sorted_inj S hb ha e]
theorem way_in {c : List Acc} {k : Nat} {a : Acc} (S : Sorted c) (ha : a ∈ c) : way c (k + 1) a.code = a.code :: way c k a.parent := by
  rw [way, find_of_mem S ha]
structure Good (c : List Acc) : Prop where
  sorted : Sorted c
  pos : ∀ a ∈ c, 1 ≤ a.code
  parent : ∀ a ∈ c, a.parent = 0 ∨ ∃ p ∈ c, p.code = a.parent ∧ p.code < a.code ∧ p.kind = a.kind
  deep : ∀ a ∈ c, (way c 13 a.code).length ≤ 12
theorem find_zero {c : List Acc} (G : Good c) : find c 0 = none := by
  cases h : find c 0 with
  | none => rfl
  | some b =>
    obtain ⟨hb, e⟩ := find_mem h
    have := G.pos b hb
    omega
theorem way_mono (c : List Acc) : ∀ k n, (way c k n).length ≤ (way c (k + 1) n).length
  | 0, n => by simp [way]
  | k + 1, n => by
    rw [way, way]
    split
    · exact Nat.le_refl _
    · simp
      exact way_mono c k _
theorem way_stop {c : List Acc} : ∀ (k n), (way c k n).length < k → ∀ j, way c (k + j) n = way c k n
  | 0, n, h, j => by simp [way] at h
  | k + 1, n, h, j => by
    rw [show k + 1 + j = (k + j) + 1 by omega, way, way]
    split
    · rfl
    · rename_i a ha
      rw [way, ha] at h
      simp at h
      rw [way_stop k a.parent (by omega) j]
theorem find_snoc {c : List Acc} {x : Acc} {n : Int} (h : n ≠ x.code) : find (c ++ [x]) n = find c n := by
  unfold find
  rw [List.find?_append]
  have : [x].find? (fun a => a.code == n) = none := by simp; omega
  rw [this]
  cases c.find? (fun a => a.code == n) <;> rfl
theorem way_snoc {c : List Acc} {x : Acc} (hpar : ∀ a ∈ c, a.parent ≠ x.code) : ∀ (k : Nat) (n : Int), n ≠ x.code → way (c ++ [x]) k n = way c k n
  | 0, n, _ => rfl
  | k + 1, n, h => by
    rw [way, way, find_snoc h]
    split
    · rfl
    · rename_i a ha
      rw [way_snoc hpar k a.parent (hpar a (find_mem ha).1)]
theorem Good.nil : Good [] := ⟨List.Pairwise.nil, by simp, by simp, by simp⟩
theorem Good.snoc {c : List Acc} (G : Good c) {x : Acc} (hpos : 1 ≤ x.code) (hgt : ∀ a ∈ c, a.code < x.code)
    (hp : x.parent = 0 ∨ ∃ p ∈ c, p.code = x.parent ∧ p.kind = x.kind ∧ (way c 13 p.code).length ≤ 11) : Good (c ++ [x]) := by
  have hpar : ∀ a ∈ c, a.parent ≠ x.code := by
    intro a ha e
    rcases G.parent a ha with h0 | ⟨p, hpc, e2, hlt, _⟩
    · omega
    · have := hgt p hpc
      omega
  have hs : Sorted (c ++ [x]) := by
    unfold Sorted
    rw [List.pairwise_append]
    exact ⟨G.sorted, List.pairwise_singleton _ _, fun a ha b hb => by rw [List.mem_singleton.1 hb]; exact hgt a ha⟩
  refine ⟨hs, fun a ha => ?_, fun a ha => ?_, fun a ha => ?_⟩
  · rcases List.mem_append.1 ha with ha | ha
    · exact G.pos a ha
    · rw [List.mem_singleton.1 ha]; exact hpos
  · rcases List.mem_append.1 ha with ha | ha
    · rcases G.parent a ha with h0 | ⟨p, hpc, e⟩
      · exact .inl h0
      · exact .inr ⟨p, List.mem_append_left _ hpc, e⟩
    · rw [List.mem_singleton.1 ha]
      rcases hp with h0 | ⟨p, hpc, e1, e2, _⟩
      · exact .inl h0
      · exact .inr ⟨p, List.mem_append_left _ hpc, e1, hgt p hpc, e2⟩
  · rcases List.mem_append.1 ha with ha | ha
    · rw [way_snoc hpar 13 a.code (by have := hgt a ha; omega)]
      exact G.deep a ha
    · obtain rfl := List.mem_singleton.1 ha
      rw [way_in hs (List.mem_append_right _ (List.mem_singleton.2 rfl))]
      rcases hp with h0 | ⟨p, hpc, e1, e2, h3⟩
      · have hz : find (c ++ [a]) 0 = none := by
          rw [find_snoc (by omega)]
          exact find_zero G
        rw [h0, way, hz]
        simp
      · rw [way_snoc hpar 12 a.parent (by have := hgt p hpc; omega), ← e1]
        have h4 := way_mono c 12 p.code
        have h5 : (way c 12 p.code).length < 12 := by have h6 : (way c (12 + 1) p.code).length ≤ 11 := h3; omega
        have := way_stop 12 p.code h5 1
        rw [this] at h3
        simp
        omega
def NameOk (b : ByteArray) : Prop := ∃ i : Fin 5, b = ([(⟨#[67, 97, 115, 104]⟩ : ByteArray), (⟨#[97]⟩ : ByteArray), (⟨#[66, 97, 110, 107, 32, 49]⟩ : ByteArray), (⟨#[76, 111, 115, 115, 46, 120]⟩ : ByteArray), (⟨#[49, 50, 51, 52, 53, 54, 55, 56, 57, 48, 49, 50, 51, 52, 53, 54, 55, 56, 57, 48, 49, 50, 51, 52, 53, 54, 55, 56, 57, 48]⟩ : ByteArray)] : List ByteArray)[i]
structure Made (c : List Acc) : Prop where
  good : Good c
  len : c.length ≤ 40
  names : ∀ a ∈ c, NameOk a.name
  kinds : ∀ a ∈ c, 0 ≤ a.kind ∧ a.kind ≤ 4
  small : ∀ a ∈ c, a.code ≤ 160
  nonneg : ∀ a ∈ c, 0 ≤ a.parent
theorem Made.nil : Made [] := ⟨Good.nil, by simp, by simp, by simp, by simp, by simp⟩
theorem Made.snoc {c : List Acc} (M : Made c) {x : Acc} (hl : c.length < 40) (hpos : 1 ≤ x.code) (hgt : ∀ a ∈ c, a.code < x.code)
    (hp : x.parent = 0 ∨ ∃ p ∈ c, p.code = x.parent ∧ p.kind = x.kind ∧ (way c 13 p.code).length ≤ 11) (hn : NameOk x.name) (hk : 0 ≤ x.kind ∧ x.kind ≤ 4) (hs : x.code ≤ 160) : Made (c ++ [x]) := by
  refine ⟨M.good.snoc hpos hgt hp, by simp; omega, ?_, ?_, ?_, ?_⟩ <;> intro a ha <;> rcases List.mem_append.1 ha with ha | ha
  · exact M.names a ha
  · rw [List.mem_singleton.1 ha]; exact hn
  · exact M.kinds a ha
  · rw [List.mem_singleton.1 ha]; exact hk
  · exact M.small a ha
  · rw [List.mem_singleton.1 ha]; exact hs
  · exact M.nonneg a ha
  · rw [List.mem_singleton.1 ha]
    rcases hp with h | ⟨p, hpc, e, _⟩
    · omega
    · have := M.good.pos p hpc
      omega
end Go.Proofs.YthabndifdgafbaaGreatDoor.RV.ChartMath
end
end
section
set_option linter.constructorNameAsVariable false
namespace Go.Proofs.YthabndifdgafbaaGreatDoor.RV
section
variable {cfg : Cfg} {X : Run} {cur : FuncId} {ops : Array Oper} {base : Nat}
theorem step_iff {i : Nat} {o : Oper} {s s' : St} : stepA cfg X cur ops base i o s = some s' ↔ ∃ p H m, effA cfg X cur ops base i o s.env s.H s.m = some (p, H, m) ∧ (∀ t, o.dst = some t → t < s.sz) ∧ s' = ⟨putD s.env o.dst p, H, m, s.sz⟩ := by
  unfold stepA
  constructor
  · intro h
    split at h
    · rename_i p H m heff
      refine ⟨p, H, m, heff, ?_⟩
      unfold setD at h
      cases hd : o.dst with
      | none => rw [hd] at h; cases h; exact ⟨fun t h => (by cases h), rfl⟩
      | some d =>
        rw [hd] at h
        simp only at h
        split at h <;> cases h
        rename_i hlt
        exact ⟨fun t h => by cases h; exact hlt, rfl⟩
    · cases h
  · rintro ⟨p, H, m, heff, hlt, rfl⟩
    rw [heff]
    simp only
    unfold setD
    cases hd : o.dst with
    | none => rfl
    | some d => simp only; rw [if_pos (hlt d hd)]; rfl
theorem putD_comm {env : Env} {d e : Option Tmp} {p q : PV} (h : ∀ t, d = some t → e ≠ some t) : putD (putD env d p) e q = putD (putD env e q) d p := by
  cases d with
  | none => rfl
  | some t =>
    cases e with
    | none => rfl
    | some u =>
      simp only [putD]
      exact put_comm env (fun he => h t rfl (by rw [he]))
theorem eff_pure {i : Nat} {o : Oper} (h : kin cfg cur o = .pure ∨ True ∧ False) (env : Env) : ∃ r : Option PV, ∀ H m, effA cfg X cur ops base i o env H m = r.map fun p => (p, H, m) := by
  have h : kin cfg cur o = .pure := h.elim id fun h => h.2.elim
  have hc : cls cfg cur o = .pure := by
    unfold kin at h
    split at h <;> first | assumption | (exfalso; revert h; first | decide | (split <;> decide))
  cases hw : wantA env ops o with
  | false => exact ⟨some undefP, fun H m => by unfold effA; rw [hw]; rfl⟩
  | true =>
    refine ⟨effPure cfg X env o, fun H m => ?_⟩
    unfold effA
    rw [hw, hc]
    simp only
    cases effPure cfg X env o <;> rfl
theorem cls_of_read {o : Oper} (h : kin cfg cur o = .read ∨ kin cfg cur o = .call) : cls cfg cur o = .read := by
  unfold kin at h
  cases hc : cls cfg cur o <;> rw [hc] at h <;> simp at h ⊢
theorem eff_read {i : Nat} {o : Oper} (h : kin cfg cur o = .read ∨ kin cfg cur o = .call) (env : Env) : ∃ f : Heap → Option PV, (∀ H m, effA cfg X cur ops base i o env H m = (f H).map fun p => (p, H, m)) ∧
    (kin cfg cur o = .read → ∀ H k e p, H.get k = none → f H = some p → f (H.put k e) = some p) := by
  have hc := cls_of_read h
  cases hw : wantA env ops o with
  | false => exact ⟨fun _ => some undefP, fun H m => by unfold effA; rw [hw]; rfl, fun _ H k e p _ h => h⟩
  | true =>
    refine ⟨fun H => effRead cfg X env H o, fun H m => ?_, fun hk H k e p hn hp => ?_⟩
    · unfold effA
      rw [hw, hc]
      simp only
      cases effRead cfg X env H o <;> rfl
    · unfold effRead at hp ⊢
      have hcal : callee? o.op = none := by
        unfold kin at hk
        rw [hc] at hk
        simp only at hk
        split at hk
        · cases hk
        · assumption
      rw [hcal] at hp ⊢
      exact aopRead_put hn hp
theorem eff_new {i : Nat} {o : Oper} (h : kin cfg cur o = .new) (env : Env) : (∃ p, ∀ H m, effA cfg X cur ops base i o env H m = some (p, H, m)) ∨
    ∃ r : Option (PV × HObj), ∀ H m, effA cfg X cur ops base i o env H m = match r with | some (p, ob) => (match H.get (base + i) with | none => some (p, H.put (base + i) (0, ob), m) | some _ => none) | none => none := by
  have hc : cls cfg cur o = .new := by
    unfold kin at h
    cases hc : cls cfg cur o <;> rw [hc] at h <;> simp at h ⊢
    split at h <;> cases h
  cases hw : wantA env ops o with
  | false => exact .inl ⟨undefP, fun H m => by unfold effA; rw [hw]⟩
  | true =>
    cases hn : newOf cfg X env o (base + i) with
    | none =>
      refine .inr ⟨none, fun H m => ?_⟩
      unfold effA
      rw [hw, hc]
      simp only [hn]
    | some r =>
      obtain ⟨p, ob⟩ := r
      cases ob with
      | none =>
        refine .inl ⟨p, fun H m => ?_⟩
        unfold effA
        rw [hw, hc]
        simp only [hn]
      | some ob =>
        refine .inr ⟨some (p, ob), fun H m => ?_⟩
        unfold effA
        rw [hw, hc]
        simp only [hn]
        cases H.get (base + i) <;> rfl
theorem eff_write {i : Nat} {o : Oper} (h : kin cfg cur o = .write) (env : Env) : (∃ p, ∀ H m, effA cfg X cur ops base i o env H m = some (p, H, m)) ∨
    ∀ H m, effA cfg X cur ops base i o env H m = match effWrite cfg env H o (base + i) with | some (p, H') => some (p, H', m) | none => none := by
  have hc : cls cfg cur o = .write := by
    unfold kin at h
    cases hc : cls cfg cur o <;> rw [hc] at h <;> simp at h ⊢
    split at h <;> cases h
  cases hw : wantA env ops o with
  | false => exact .inl ⟨undefP, fun H m => by unfold effA; rw [hw]⟩
  | true =>
    refine .inr fun H m => ?_
    unfold effA
    rw [hw, hc]
    simp only
    cases effWrite cfg env H o (base + i) <;> rfl
theorem eff_swap {i j : Nat} {oi oj : Oper} (hij : j ≠ i) (hk : kinOK (kin cfg cur oj) (kin cfg cur oi) = true) {env : Env} {H Hj Hij : Heap} {m mj mij : Nat} {pi pj : PV} (h1 : effA cfg X cur ops base j oj env H m = some (pj, Hj, mj))
    (h2 : effA cfg X cur ops base i oi env Hj mj = some (pi, Hij, mij)) : ∃ Hi mi, effA cfg X cur ops base i oi env H m = some (pi, Hi, mi) ∧ effA cfg X cur ops base j oj env Hi mi = some (pj, Hij, mij) := by
  by_cases hpi : kin cfg cur oi = .pure
  · obtain ⟨r, hr⟩ := eff_pure (X := X) (ops := ops) (base := base) (i := i) (.inl hpi) env
    rw [hr] at h2
    cases r with
    | none => cases h2
    | some p => cases h2; exact ⟨H, m, by rw [hr]; rfl, h1⟩
  by_cases hpj : kin cfg cur oj = .pure
  · obtain ⟨r, hr⟩ := eff_pure (X := X) (ops := ops) (base := base) (i := j) (.inl hpj) env
    rw [hr] at h1
    cases r with
    | none => cases h1
    | some p => cases h1; exact ⟨Hij, mij, h2, by rw [hr]; rfl⟩
  have rr : (kin cfg cur oj = .read ∨ kin cfg cur oj = .call) → (kin cfg cur oi = .read ∨ kin cfg cur oi = .call) → ∃ Hi mi, effA cfg X cur ops base i oi env H m = some (pi, Hi, mi) ∧ effA cfg X cur ops base j oj env Hi mi = some (pj, Hij, mij) := by
    intro hj hi
    obtain ⟨f, hf, _⟩ := eff_read (X := X) (ops := ops) (base := base) (i := j) hj env
    obtain ⟨g, hg, _⟩ := eff_read (X := X) (ops := ops) (base := base) (i := i) hi env
    rw [hf] at h1
    cases hfH : f H with
    | none => rw [hfH] at h1; cases h1
    | some p =>
      rw [hfH] at h1
      cases h1
      rw [hg] at h2
      cases hgH : g H with
      | none => rw [hgH] at h2; cases h2
      | some q =>
        rw [hgH] at h2
        cases h2
        exact ⟨H, m, by rw [hg, hgH]; rfl, by rw [hf, hfH]; rfl⟩
  cases hkj : kin cfg cur oj <;> cases hki : kin cfg cur oi <;> rw [hkj, hki] at hk <;> first
    | exact absurd hki hpi
    | exact absurd hkj hpj
    | exact rr (.inl hkj) (.inl hki)
    | exact rr (.inl hkj) (.inr hki)
    | exact rr (.inr hkj) (.inl hki)
    | exact rr (.inr hkj) (.inr hki)
    | skip
  all_goals try (simp [kinOK] at hk; done)
  · -- new, new
    have hne : base + j ≠ base + i := by omega
    rcases eff_new (X := X) (ops := ops) (base := base) (i := i) hki env with ⟨p, hp⟩ | ⟨r, hr⟩
    · rw [hp] at h2
      cases h2
      exact ⟨H, m, hp H m, h1⟩
    rcases eff_new (X := X) (ops := ops) (base := base) (i := j) hkj env with ⟨p, hp⟩ | ⟨r', hr'⟩
    · rw [hp] at h1
      cases h1
      exact ⟨Hij, mij, h2, hp Hij mij⟩
    rw [hr'] at h1
    rw [hr] at h2
    cases r' with
    | none => cases h1
    | some y =>
      obtain ⟨p, ob⟩ := y
      simp only at h1
      split at h1 <;> try cases h1
      rename_i hn
      cases r with
      | none => cases h2
      | some z =>
        obtain ⟨q, ob'⟩ := z
        simp only at h2
        split at h2 <;> try cases h2
        rename_i hn2
        rw [put_get] at hn2
        rw [if_neg (Ne.symm hne)] at hn2
        refine ⟨H.put (base + i) (0, ob'), m, ?_, ?_⟩
        · rw [hr]; simp only [hn2]
        · rw [hr']
          have : (H.put (base + i) (0, ob')).get (base + j) = none := by rw [put_get, if_neg hne]; exact hn
          simp only [this]
          rw [put_comm H (k := base + j) (q := base + i) hne]
  · -- read, new
    obtain ⟨f, hf, hmono⟩ := eff_read (X := X) (ops := ops) (base := base) (i := j) (.inl hkj) env
    rw [hf] at h1
    cases hfH : f H with
    | none => rw [hfH] at h1; cases h1
    | some p =>
      rw [hfH] at h1
      cases h1
      rcases eff_new (X := X) (ops := ops) (base := base) (i := i) hki env with ⟨q, hq⟩ | ⟨r, hr⟩
      · rw [hq] at h2
        cases h2
        exact ⟨H, m, hq H m, by rw [hf, hfH]; rfl⟩
      · rw [hr] at h2
        cases r with
        | none => cases h2
        | some z =>
          obtain ⟨q, ob⟩ := z
          simp only at h2
          split at h2 <;> try cases h2
          rename_i hn
          exact ⟨H.put (base + i) (0, ob), m, by rw [hr]; simp only [hn], by rw [hf, hmono hkj H _ _ _ hn hfH]; rfl⟩
  · -- write, new
    rcases eff_write (X := X) (ops := ops) (base := base) (i := j) hkj env with ⟨p, hp⟩ | hw
    · rw [hp] at h1
      cases h1
      exact ⟨Hij, mij, h2, hp Hij mij⟩
    rcases eff_new (X := X) (ops := ops) (base := base) (i := i) hki env with ⟨q, hq⟩ | ⟨r, hr⟩
    · rw [hq] at h2
      cases h2
      exact ⟨H, m, hq H m, h1⟩
    rw [hw] at h1
    cases heff : effWrite cfg env H oj (base + j) with
    | none => rw [heff] at h1; cases h1
    | some y =>
      obtain ⟨p, H1⟩ := y
      rw [heff] at h1
      cases h1
      rw [hr] at h2
      cases r with
      | none => cases h2
      | some z =>
        obtain ⟨q, ob⟩ := z
        simp only at h2
        split at h2 <;> try cases h2
        rename_i hn
        unfold effWrite at heff
        split at heff
        · rename_i hnj
          split at heff <;> cases heff
          rename_i d hd
          obtain ⟨hn0, hne⟩ := applyD_none d H hn
          refine ⟨H.put (base + i) (0, ob), m, by rw [hr]; simp only [hn0], ?_⟩
          rw [hw]
          have h3 : (H.put (base + i) (0, ob)).get (base + j) = none := by rw [put_get, if_neg (by omega)]; exact hnj
          unfold effWrite
          rw [h3]
          simp only [aopWrite_put hn0 hd]
          rw [applyD_put d H hne]
        · cases heff
end
end Go.Proofs.YthabndifdgafbaaGreatDoor.RV
end
section
set_option linter.constructorNameAsVariable false
namespace Go.Proofs.YthabndifdgafbaaGreatDoor.RV
open Go.RowKit (Below)
section
variable {cfg : Cfg} {X : Run} {cur : FuncId} {ops : Array Oper} {base : Nat}
def runL (cfg : Cfg) (X : Run) (cur : FuncId) (ops : Array Oper) (base : Nat) : List (Nat × Oper) → St → Option St
  | [], s => some s
  | (i, o) :: l, s => match stepA cfg X cur ops base i o s with
    | some s' => runL cfg X cur ops base l s'
    | none => none
theorem runL_of_ops : ∀ (os : List Oper) (i : Nat) (s : St), runOps cfg X cur ops base os i s = runL cfg X cur ops base ((List.range' i os.length).zip os) s
  | [], i, s => by simp [runOps, runL]
  | o :: os, i, s => by
    simp only [List.length_cons, List.range'_succ, List.zip_cons_cons, runOps, runL]
    cases stepA cfg X cur ops base i o s with
    | none => rfl
    | some s' => exact runL_of_ops os (i + 1) s'
theorem step_swap {i j : Nat} {oi oj : Oper} {s s1 s2 : St} (hij : j ≠ i) (hin : indep cfg cur ops oj oi = true) (_ : s.sz ≤ 8000) (h1 : stepA cfg X cur ops base j oj s = some s1) (h2 : stepA cfg X cur ops base i oi s1 = some s2) :
    ∃ s1', stepA cfg X cur ops base i oi s = some s1' ∧ stepA cfg X cur ops base j oj s1' = some s2 := by
  unfold indep at hin
  simp only [Bool.and_eq_true] at hin
  obtain ⟨hap, hk⟩ := hin
  obtain ⟨a1, a2, a3⟩ := Oper.apart_spec hap
  obtain ⟨pj, Hj, mj, hej, hlj, rfl⟩ := step_iff.1 h1
  obtain ⟨pi, Hij, mij, hei, hli, rfl⟩ := step_iff.1 h2
  rw [effA_congr (env := s.env) (d := oj.dst) (p := pj) a1 rfl] at hei
  obtain ⟨Hi, mi, e1, e2⟩ := eff_swap hij hk hej hei
  refine ⟨⟨putD s.env oi.dst pi, Hi, mi, s.sz⟩, step_iff.2 ⟨pi, Hi, mi, e1, hli, rfl⟩, step_iff.2 ⟨pj, Hij, mij, ?_, hlj, ?_⟩⟩
  · rw [effA_congr (env := s.env) (d := oi.dst) (p := pi) a3 rfl]
    exact e2
  · simp only
    rw [putD_comm a2]
theorem step_sz {i : Nat} {o : Oper} {s s' : St} (h : stepA cfg X cur ops base i o s = some s') : s'.sz = s.sz := by
  obtain ⟨p, H, m, _, _, rfl⟩ := step_iff.1 h
  rfl
theorem putD_other {env : Env} {d : Option Tmp} {p : PV} {a : Tmp} (h : d ≠ some a) : (putD env d p).at a = env.at a := by
  cases d with
  | none => rfl
  | some t =>
    unfold putD Env.at
    rw [put_get, if_neg (fun e => h (by rw [e]))]
def ptrId : PV → Option Nat
  | .ptr id _ _ _ => some id
  | _ => none
theorem applyD_get_ne {k : Nat} : ∀ (d : Delta) (H : Heap), (∀ e ∈ d, e.1 ≠ k) → (applyD H d).get k = H.get k
  | [], H, _ => rfl
  | (id, ver, o) :: d, H, h => by
    rw [applyD_cons, applyD_get_ne d _ (fun e he => h e (by simp [he])), put_get, if_neg (fun e => h (id, ver, o) (by simp) e.symm)]
theorem runL_keeps {a : Tmp} {sf : St} : ∀ (l : List (Nat × Oper)) {s : St}, runL cfg X cur ops base l s = some sf → (∀ y ∈ l, y.2.dst ≠ some a) → sf.env.at a = s.env.at a
  | [], s, h, _ => by simp only [runL] at h; cases h; rfl
  | (j, oj) :: l, s, h, hn => by
    simp only [runL] at h
    cases hs : stepA cfg X cur ops base j oj s with
    | none => rw [hs] at h; cases h
    | some sj =>
      rw [hs] at h
      rw [runL_keeps l h (fun y hy => hn y (by simp [hy]))]
      obtain ⟨p, H, m, _, _, rfl⟩ := step_iff.1 hs
      exact putD_other (hn (j, oj) (by simp))
theorem step_swapD {i j : Nat} {oi oj : Oper} {s s1 s2 : St} {a b : Tmp} {t t' : TypeId} {x : Operand} (hap : oj.apart ops oi = true) (hgj : oj.guard = none) (hgi : oi.guard = none) (hoj : oj.op = .load t (.tmp a)) (hoi : oi.op = .store t' (.tmp b) x)
    (hd : ptrsApart (s.env.at a) (s.env.at b) = true) (h1 : stepA cfg X cur ops base j oj s = some s1) (h2 : stepA cfg X cur ops base i oi s1 = some s2) :
    ∃ s1', stepA cfg X cur ops base i oi s = some s1' ∧ stepA cfg X cur ops base j oj s1' = some s2 := by
  obtain ⟨a1, a2, a3⟩ := Oper.apart_spec hap
  obtain ⟨pj, Hj, mj, hej, hlj, rfl⟩ := step_iff.1 h1
  obtain ⟨pi, Hij, mij, hei, hli, rfl⟩ := step_iff.1 h2
  rw [effA_congr (env := s.env) (d := oj.dst) (p := pj) a1 rfl] at hei
  have sw : ∃ Hi mi, effA cfg X cur ops base i oi s.env s.H s.m = some (pi, Hi, mi) ∧ effA cfg X cur ops base j oj s.env Hi mi = some (pj, Hij, mij) := by
    have hci : cls cfg cur oi = .write := by unfold cls; rw [hoi]
    have hwi : wantA s.env ops oi = true := by unfold wantA; rw [hgi]
    have hwj : wantA s.env ops oj = true := by unfold wantA; rw [hgj]
    have hki : callee? oi.op = none := by rw [hoi]; rfl
    have hkj : callee? oj.op = none := by rw [hoj]; rfl
    -- the store
    have hst : ∀ H m, effA cfg X cur ops base i oi s.env H m = match effWrite cfg s.env H oi (base + i) with | some (p, H') => some (p, H', m) | none => none := by
      intro H m
      unfold effA
      rw [hwi, hci]
      cases effWrite cfg s.env H oi (base + i) <;> rfl
    -- the load leaves the memory as it is
    have hld : ∃ f : Heap → Option PV, (∀ H m, effA cfg X cur ops base j oj s.env H m = match f H with | some p => some (p, H, m) | none => none) ∧
        ∀ H δ p, (∀ e ∈ δ, ptrId (s.env.at b) = some e.1) → f H = some p → f (applyD H δ) = some p := by
      have hcj : cls cfg cur oj = .pure ∨ cls cfg cur oj = .read := by
        unfold cls
        rw [hoj]
        dsimp only
        split <;> simp
      rcases hcj with hcj | hcj
      · refine ⟨fun _ => effPure cfg X s.env oj, fun H m => ?_, fun _ _ _ _ h => h⟩
        unfold effA
        rw [hwj, hcj]
        dsimp only
        cases effPure cfg X s.env oj <;> rfl
      · refine ⟨fun H => loadA cfg.P H t (s.env.at a), fun H m => ?_, fun H δ p hδ h => ?_⟩
        · unfold effA
          rw [hwj, hcj]
          dsimp only
          unfold effRead
          rw [hkj]
          dsimp only
          unfold aopRead
          rw [hoj]
          dsimp only [evO]
          cases loadA cfg.P H t (s.env.at a) <;> rfl
        · cases hpa : s.env.at a with
          | dptr l off => rw [hpa] at h; exact h
          | ptr id v ix off =>
            rw [hpa] at h hd
            cases hpb : s.env.at b with
            | ptr id' v' ix' off' =>
              rw [hpb] at hd hδ
              have hne : id ≠ id' := by
                intro e
                rw [e] at hd
                simp [ptrsApart] at hd
              have hob : obj (applyD H δ) id v = obj H id v := by
                unfold obj
                rw [applyD_get_ne δ H (fun e he => by have := hδ e he; simp only [ptrId, Option.some.injEq] at this; rw [← this]; exact fun hh => hne hh.symm)]
              unfold loadA at h ⊢
              dsimp only at h ⊢
              rw [hob]
              exact h
            | _ => rw [hpb] at hd; simp [ptrsApart] at hd
          | _ => rw [hpa] at h; simp [loadA] at h
    obtain ⟨f, hf, hmono⟩ := hld
    rw [hf] at hej
    cases hfH : f s.H with
    | none => rw [hfH] at hej; cases hej
    | some q =>
      rw [hfH] at hej
      cases hej
      rw [hst] at hei
      cases he : effWrite cfg s.env s.H oi (base + i) with
      | none => rw [he] at hei; cases hei
      | some r =>
        obtain ⟨p, H'⟩ := r
        rw [he] at hei
        cases hei
        refine ⟨_, _, by rw [hst, he], ?_⟩
        rw [hf]
        unfold effWrite at he
        split at he
        · split at he <;> cases he
          rename_i δ hw
          rw [hmono s.H _ _ ?_ hfH]
          intro e hem
          unfold aopWrite at hw
          rw [hoi] at hw
          dsimp only [evO] at hw
          split at hw
          · rename_i p1 v1 hp1 _
            cases hp1
            split at hw <;> cases hw
            rename_i hsa
            unfold storeA at hsa
            split at hsa
            · rename_i id ver idx off hpb
              rw [hpb]
              split at hsa
              · split at hsa
                · split at hsa
                  · split at hsa
                    · cases hsa; simp at hem; subst hem; rfl
                    · split at hsa
                      · cases hsa
                      · split at hsa <;> cases hsa
                        simp at hem; subst hem; rfl
                  · cases hsa
                · cases hsa
              · cases hsa
            · cases hsa
          · cases hw
        · cases he
  obtain ⟨Hi, mi, e1, e2⟩ := sw
  refine ⟨⟨putD s.env oi.dst pi, Hi, mi, s.sz⟩, step_iff.2 ⟨pi, Hi, mi, e1, hli, rfl⟩, step_iff.2 ⟨pj, Hij, mij, ?_, hlj, ?_⟩⟩
  · rw [effA_congr (env := s.env) (d := oi.dst) (p := pi) a3 rfl]
    exact e2
  · simp only
    rw [putD_comm a2]
theorem noLater_spec {l : List Oper} {j : Nat} {a : Tmp} (h : noLater l j a = true) {k : Nat} {o : Oper} (ho : l[k]? = some o) (hk : j ≤ k) : o.dst ≠ some a := by
  unfold noLater at h
  have hm : o ∈ l.drop j := by
    refine List.mem_iff_getElem?.2 ⟨k - j, ?_⟩
    rw [List.getElem?_drop, show j + (k - j) = k by omega]
    exact ho
  have := List.all_eq_true.1 h o hm
  intro e
  rw [e] at this
  simp at this
theorem runL_front {i : Nat} {oi : Oper} {l2 : List (Nat × Oper)} {sf : St} (hoi : ops[i]? = some oi) (h2 : ∀ y ∈ l2, ops[y.1]? = some y.2 ∧ i < y.1) : ∀ (l1 : List (Nat × Oper)) {s : St}, s.sz ≤ 8000 → (∀ x ∈ l1, ops[x.1]? = some x.2 ∧ x.1 < i ∧ (indep cfg cur ops x.2 oi || dynP ops sf.env x.1 x.2 i oi) = true) → l1.Pairwise (fun x y => x.1 < y.1) → runL cfg X cur ops base (l1 ++ (i, oi) :: l2) s = some sf →
    ∃ s1, stepA cfg X cur ops base i oi s = some s1 ∧ runL cfg X cur ops base (l1 ++ l2) s1 = some sf
  | [], s, _, _, _, h => by
    simp only [List.nil_append, runL] at h ⊢
    cases hs : stepA cfg X cur ops base i oi s with
    | none => rw [hs] at h; cases h
    | some s1 => rw [hs] at h; exact ⟨s1, rfl, h⟩
  | (j, oj) :: l1, s, hsz, hin, hpw, h => by
    simp only [List.cons_append, runL] at h ⊢
    cases hs : stepA cfg X cur ops base j oj s with
    | none => rw [hs] at h; cases h
    | some sj =>
      rw [hs] at h
      obtain ⟨hpw1, hpw2⟩ := List.pairwise_cons.1 hpw
      obtain ⟨s2, h1, hrun⟩ := runL_front hoi h2 l1 (by rw [step_sz hs]; exact hsz) (fun x hx => hin x (by simp [hx])) hpw2 h
      obtain ⟨hoj, hlt, hind⟩ := hin (j, oj) (by simp)
      have hne : j ≠ i := by have : j < i := hlt; omega
      cases hst : indep cfg cur ops oj oi with
      | true =>
        obtain ⟨s1', h3, h4⟩ := step_swap hne hst hsz hs h1
        exact ⟨s1', h3, by rw [h4]; exact hrun⟩
      | false =>
        have hind : (indep cfg cur ops oj oi || dynP ops sf.env j oj i oi) = true := hind
        rw [hst, Bool.false_or] at hind
        unfold dynP at hind
        rw [Bool.and_eq_true] at hind
        obtain ⟨hap, hind⟩ := hind
        split at hind
        · rename_i t a t' b x hgj hgi hopj hopi
          simp only [Bool.and_eq_true] at hind
          obtain ⟨n1, n2, hpt⟩ := hind
          obtain ⟨a1, a2, a3⟩ := Oper.apart_spec hap
          have hl : ∀ {k : Nat} {o : Oper}, ops[k]? = some o → ops.toList[k]? = some o := fun h => by simpa using h
          have hb : b ∈ oi.looksAt ops := List.mem_append_left _ (List.mem_filterMap.2 ⟨.tmp b, by rw [hopi]; simp [Op.operands], rfl⟩)
          have ka : sf.env.at a = s2.env.at a := runL_keeps _ hrun fun y hy => by
            rcases List.mem_append.1 hy with hy | hy
            · exact noLater_spec n1 (hl (hin y (by simp [hy])).1) (Nat.le_of_lt (hpw1 y hy))
            · exact noLater_spec n1 (hl (h2 y hy).1) (by have := (h2 y hy).2; omega)
          have kb : sf.env.at b = s2.env.at b := runL_keeps _ hrun fun y hy => by
            rcases List.mem_append.1 hy with hy | hy
            · have hyi := (hin y (by simp [hy])).2.2
              have hya : y.2.apart ops oi = true := by
                cases hq : indep cfg cur ops y.2 oi with
                | true => unfold indep at hq; rw [Bool.and_eq_true] at hq; exact hq.1
                | false =>
                  rw [hq, Bool.false_or] at hyi
                  unfold dynP at hyi
                  rw [Bool.and_eq_true] at hyi
                  exact hyi.1
              intro e
              exact (Oper.apart_spec hya).1 b e hb
            · exact noLater_spec n2 (hl (h2 y hy).1) (Nat.le_of_lt (h2 y hy).2)
          have sa : s2.env.at a = s.env.at a := by
            obtain ⟨p, H, m, _, _, rfl⟩ := step_iff.1 hs
            obtain ⟨p2, H2, m2, _, _, rfl⟩ := step_iff.1 h1
            have e1 := putD_other (env := putD s.env oj.dst p) (p := p2) (noLater_spec n1 (hl hoi) (Nat.le_of_lt hlt))
            have e2 := putD_other (env := s.env) (p := p) (noLater_spec n1 (hl hoj) (Nat.le_refl _))
            exact e1.trans e2
          have sb : s2.env.at b = s.env.at b := by
            obtain ⟨p, H, m, _, _, rfl⟩ := step_iff.1 hs
            obtain ⟨p2, H2, m2, _, _, rfl⟩ := step_iff.1 h1
            have e1 := putD_other (env := putD s.env oj.dst p) (p := p2) (noLater_spec n2 (hl hoi) (Nat.le_refl _))
            have e2 := putD_other (env := s.env) (p := p) (a := b) (fun e => a1 b e hb)
            exact e1.trans e2
          rw [ka, kb, sa, sb] at hpt
          obtain ⟨s1', h3, h4⟩ := step_swapD hap hgj hgi hopj hopi hpt hs h1
          exact ⟨s1', h3, by rw [h4]; exact hrun⟩
        · cases hind
theorem maskOf_bit {o : Oper} {acc : List Nat} {j : Nat} (h : (maskOf o acc).testBit j = true) : ∃ e ∈ o.after.toList, Region.binds .any e = true ∧ (j = e.on ∨ ∃ m, acc[e.on]? = some m ∧ m.testBit j = true) := by
  have key : ∀ (es : List Edge) (m : Nat), (es.foldl (fun m e => if Region.binds .any e then m ||| (2 ^ e.on ||| (acc[e.on]?).getD 0) else m) m).testBit j = true →
      m.testBit j = true ∨ ∃ e ∈ es, Region.binds .any e = true ∧ (j = e.on ∨ ∃ m, acc[e.on]? = some m ∧ m.testBit j = true) := by
    intro es
    induction es with
    | nil => exact fun m h => .inl h
    | cons e es ih =>
      intro m h
      rw [List.foldl_cons] at h
      rcases ih _ h with h1 | ⟨e', he', r⟩
      · split at h1
        · rename_i hb
          rw [Nat.testBit_or, Nat.testBit_or, Bool.or_eq_true, Bool.or_eq_true] at h1
          rcases h1 with h1 | h1 | h1
          · exact .inl h1
          · rw [Nat.testBit_two_pow] at h1
            exact .inr ⟨e, by simp, hb, .inl (by have := of_decide_eq_true h1; exact this.symm)⟩
          · cases ha : acc[e.on]? with
            | none => rw [ha] at h1; simp at h1
            | some m' => rw [ha] at h1; exact .inr ⟨e, by simp, hb, .inr ⟨m', ha, by simpa using h1⟩⟩
        · exact .inl h1
      · exact .inr ⟨e', by simp [he'], r⟩
  rcases key _ 0 h with h | h
  · simp at h
  · exact h
theorem masks_spec : ∀ (os : List Oper) (acc : List Nat) (pre : List Oper), acc.length = pre.length →
    (∀ (i : Nat) (m : Nat), acc[i]? = some m → ∀ j, m.testBit j = true → ∃ o, pre[i]? = some o ∧ ∃ e ∈ o.after.toList, Region.binds .any e = true ∧ (j = e.on ∨ ∃ m', acc[e.on]? = some m' ∧ m'.testBit j = true)) →
    ∀ (i : Nat) (m : Nat), (masks os acc)[i]? = some m → ∀ j, m.testBit j = true → ∃ o, (pre ++ os)[i]? = some o ∧ ∃ e ∈ o.after.toList, Region.binds .any e = true ∧ (j = e.on ∨ ∃ m', (masks os acc)[e.on]? = some m' ∧ m'.testBit j = true)
  | [], acc, pre, _, h => by simpa [masks] using h
  | o :: os, acc, pre, hl, h => by
    intro i m hm j hj
    have ih := masks_spec os (acc ++ [maskOf o acc]) (pre ++ [o]) (by simp [hl]) ?_ i m hm j hj
    · simpa [masks] using ih
    · have up : ∀ {k m'}, acc[k]? = some m' → (acc ++ [maskOf o acc])[k]? = some m' := fun {k m'} hk => by
        rw [List.getElem?_append_left (List.getElem?_eq_some_iff.1 hk).1]; exact hk
      intro i m hm j hj
      rw [List.getElem?_append] at hm
      split at hm
      · rename_i hi
        obtain ⟨o', ho', e, he, hb, hr⟩ := h i m hm j hj
        exact ⟨o', by rw [List.getElem?_append_left (by omega)]; exact ho', e, he, hb, hr.imp id fun ⟨m', h1, h2⟩ => ⟨m', up h1, h2⟩⟩
      · rename_i hi
        have hi0 : i - acc.length = 0 := by
          have := (List.getElem?_eq_some_iff.1 hm).1
          simpa using this
        rw [hi0] at hm
        simp at hm
        subst hm
        obtain ⟨e, he, hb, hr⟩ := maskOf_bit hj
        exact ⟨o, by rw [List.getElem?_append_right (by omega), show i - pre.length = 0 by omega]; rfl, e, he, hb, hr.imp id fun ⟨m', h1, h2⟩ => ⟨m', up h1, h2⟩⟩
theorem pairsOK_spec {pr : Pairs} {ms : List Nat} {i : Nat} {o : Oper} : ∀ (xs : List Oper) (j : Nat), pairsOK pr ms i o xs j = true → ∀ k x, xs[k]? = some x → j + k < i → ((ms[i]?).getD 0).testBit (j + k) = true ∨ pr (j + k) x i o = true
  | [], _, _, k, x, h, _ => by simp at h
  | y :: ys, j, h, k, x, hx, hlt => by
    simp only [pairsOK, Bool.and_eq_true, Bool.or_eq_true, decide_eq_true_eq] at h
    obtain ⟨h1, h2⟩ := h
    cases k with
    | zero =>
      simp at hx
      subst hx
      rcases h1 with h1 | h1
      · omega
      · simpa using h1
    | succ k =>
      have := pairsOK_spec ys (j + 1) h2 k x (by simpa using hx) (by omega)
      rw [show j + (k + 1) = j + 1 + k by omega]
      exact this
theorem allOK_spec {pr : Pairs} {l : List Oper} {ms : List Nat} : ∀ (os : List Oper) (i : Nat), allOK pr l ms os i = true → ∀ k o, os[k]? = some o → edgesOK (i + k) o = true ∧ pairsOK pr ms (i + k) o l 0 = true
  | [], _, _, k, o, h => by simp at h
  | y :: ys, i, h, k, o, ho => by
    simp only [allOK, Bool.and_eq_true] at h
    obtain ⟨h1, h2, h3⟩ := h
    cases k with
    | zero => simp at ho; subst ho; exact ⟨h1, h2⟩
    | succ k =>
      have := allOK_spec ys (i + 1) h3 k o (by simpa using ho)
      rw [show i + (k + 1) = i + 1 + k by omega]
      exact this
variable {D : List Deferred} {O0 : Nat → Prop} {Q : Exit → Act → World → Prop} {sf : St}
theorem wpAny_runL (hC : CfgOK cfg drawOK) (hX : XOK cfg drawOK X) (hD : drawD cfg cur ops sf.env = true) : ∀ (fuel : Nat) (rem : List (Nat × Oper)) (listed : Array Bool) {s : St} {a : Act} {w : World} {ι : Iota},
    rem.length ≤ fuel → listed.size = ops.size → (∀ x ∈ rem, ops[x.1]? = some x.2 ∧ listed.getD x.1 true = false) → (∀ j, j < ops.size → listed.getD j false = false → ∃ o, (j, o) ∈ rem) → rem.Pairwise (fun x y => x.1 < y.1) →
    (∀ k o, ops[k]? = some o → listed.getD k false = true → ∀ e ∈ o.after, Region.binds .any e = true → listed.getD e.on false = true) →
    Rel cfg D O0 ι s a w → runL cfg X cur ops base rem s = some sf → (∀ a' w' ι', Rel cfg D O0 ι' sf a' w' → Step ι s.H w ι' sf.H w' → Q .normal a' w') → wpAny cfg.P .any ops Q fuel listed a w := by
  -- an operation that is ready stands among those that remain
  have ready_rem : ∀ {rem : List (Nat × Oper)} {listed : Array Bool} {i : Nat}, listed.size = ops.size → (∀ x ∈ rem, ops[x.1]? = some x.2 ∧ listed.getD x.1 true = false) → (∀ j, j < ops.size → listed.getD j false = false → ∃ o, (j, o) ∈ rem) → i ∈ Region.ready .any ops listed →
      ∃ o, (i, o) ∈ rem ∧ ops[i]? = some o ∧ ∀ e ∈ o.after, Region.binds .any e = true → listed.getD e.on false = true := by
    intro rem listed i hsz h1 h2 hr
    obtain ⟨hun, o, ho, hall⟩ := mem_ready.1 hr
    have hi : i < ops.size := (Array.getElem?_eq_some_iff.1 ho).1
    have hf : listed.getD i false = false := by
      have hl : i < listed.size := by rw [hsz]; exact hi
      simp [hl] at hun ⊢
      exact hun
    obtain ⟨o', ho'⟩ := h2 i hi hf
    have h5 : ops[i]? = some o' := (h1 _ ho').1
    have he : o = o' := Option.some.inj (ho.symm.trans h5)
    exact ⟨o, by rw [he]; exact ho', ho, hall⟩
  -- the first of those that remain is ready
  have first_ready : ∀ {x : Nat × Oper} {rem : List (Nat × Oper)} {listed : Array Bool}, listed.size = ops.size → (∀ y ∈ x :: rem, ops[y.1]? = some y.2 ∧ listed.getD y.1 true = false) → (∀ j, j < ops.size → listed.getD j false = false → ∃ o, (j, o) ∈ x :: rem) → (x :: rem).Pairwise (fun x y => x.1 < y.1) → x.1 ∈ Region.ready .any ops listed := by
    intro x rem listed hsz h1 h2 hp
    obtain ⟨ho, hun⟩ := h1 x (by simp)
    refine mem_ready.2 ⟨hun, x.2, ho, fun e he hb => ?_⟩
    have hk := allOK_spec (ms := masks ops.toList []) ops.toList 0 hD x.1 x.2 (by simpa using ho)
    rw [Nat.zero_add] at hk
    have hlt : e.on < x.1 := by
      have := hk.1
      unfold edgesOK at this
      have h3 := List.all_eq_true.1 this e (by simpa using he)
      simpa [hb] using h3
    cases hl : listed.getD e.on false with
    | true => rfl
    | false =>
      obtain ⟨o, ho2⟩ := h2 e.on (Nat.lt_trans hlt (Array.getElem?_eq_some_iff.1 ho).1) hl
      rcases List.mem_cons.1 ho2 with h3 | h3
      · have h4 : e.on = x.1 := congrArg Prod.fst h3
        omega
      · have := (List.pairwise_cons.1 hp).1 _ h3
        simp only at this
        omega
  intro fuel
  induction fuel with
  | zero =>
    intro rem listed s a w ι hlen hsz h1 h2 hp h3 hR hrun hQ
    have hrem : rem = [] := List.eq_nil_of_length_eq_zero (by omega)
    subst hrem
    simp only [runL, Option.some.injEq] at hrun
    subst hrun
    refine ⟨?_, hQ a w ι hR .refl⟩
    cases hr : Region.ready .any ops listed with
    | nil => rfl
    | cons i l =>
      obtain ⟨o, ho, _⟩ := ready_rem hsz h1 h2 (i := i) (by rw [hr]; simp)
      cases ho
  | succ fuel ih =>
    intro rem listed s a w ι hlen hsz h1 h2 hp h3 hR hrun hQ
    refine ⟨fun hr => ?_, fun i hi => ?_⟩
    · cases rem with
      | nil =>
        simp only [runL, Option.some.injEq] at hrun
        subst hrun
        exact hQ a w ι hR .refl
      | cons x rem =>
        have := first_ready hsz h1 h2 hp
        rw [hr] at this
        cases this
    · obtain ⟨oi, hmem, hoi, hall⟩ := ready_rem hsz h1 h2 hi
      obtain ⟨l1, l2, rfl⟩ := List.append_of_mem hmem
      have hpair := List.pairwise_append.1 hp
      have hlow : ∀ x ∈ l1, x.1 < i := fun x hx => hpair.2.2 x hx (i, oi) (by simp)
      have hhigh : ∀ x ∈ l2, i < x.1 := fun x hx => (List.pairwise_cons.1 hpair.2.1).1 x hx
      -- all that it waits for has come up
      have hclosed : ∀ (n k : Nat), k < n → ∀ o : Oper, ops[k]? = some o → (∀ e ∈ o.after, Region.binds .any e = true → listed.getD e.on false = true) → ∀ m : Nat, (masks ops.toList [])[k]? = some m → ∀ j, m.testBit j = true → listed.getD j false = true := by
        intro n
        induction n with
        | zero => intro k hk; omega
        | succ n ihn =>
          intro k hk o ho hdir m hm j hj
          obtain ⟨o', ho', e, he, hb, hr⟩ := masks_spec ops.toList [] [] rfl (fun i m h => by simp at h) k m hm j hj
          have : o' = o := by
            have h5 : ops[k]? = some o' := by simpa using ho'
            rw [ho] at h5
            exact (Option.some.inj h5).symm
          subst this
          have hle := hdir e (by simpa using he) hb
          rcases hr with rfl | ⟨m', hm', hj'⟩
          · exact hle
          · have hlt : e.on < k := by
              have hk2 := allOK_spec (ms := masks ops.toList []) ops.toList 0 hD k o' (by simpa using ho)
              rw [Nat.zero_add] at hk2
              have h6 := hk2.1
              unfold edgesOK at h6
              have h7 := List.all_eq_true.1 h6 e he
              simpa [hb] using h7
            obtain ⟨oe, hoe⟩ : ∃ oe, ops[e.on]? = some oe := ⟨ops[e.on]'(Nat.lt_trans hlt (Array.getElem?_eq_some_iff.1 ho).1), by simp⟩
            exact ihn e.on (by omega) oe hoe (h3 e.on oe hoe hle) m' hm' j hj'
      have hind : ∀ x ∈ l1, ops[x.1]? = some x.2 ∧ x.1 < i ∧ (indep cfg cur ops x.2 oi || dynP ops sf.env x.1 x.2 i oi) = true := by
        intro x hx
        have hlt := hlow x hx
        obtain ⟨hox, hunx⟩ := h1 x (by simp [hx])
        refine ⟨hox, hlt, ?_⟩
        have hk := allOK_spec (ms := masks ops.toList []) ops.toList 0 hD i oi (by simpa using hoi)
        rw [Nat.zero_add] at hk
        have hp2 := pairsOK_spec ops.toList 0 hk.2 x.1 x.2 (by simpa using hox) (by omega)
        rw [Nat.zero_add] at hp2
        rcases hp2 with hbit | hbit
        · exfalso
          cases hms : (masks ops.toList [])[i]? with
          | none => rw [hms] at hbit; simp at hbit
          | some m =>
            rw [hms] at hbit
            have := hclosed (i + 1) i (by omega) oi hoi hall m hms x.1 (by simpa using hbit)
            have hl : x.1 < listed.size := by rw [hsz]; exact (Array.getElem?_eq_some_iff.1 hox).1
            simp [hl] at this hunx
            rw [this] at hunx
            cases hunx
        · exact hbit
      obtain ⟨s1, hs1, hrun1⟩ := runL_front hoi (fun y hy => ⟨(h1 y (by simp [hy])).1, hhigh y hy⟩) l1 (by have := hR.sz; exact this) hind hpair.1 hrun
      refine stepA_sound hC hX hR hoi hs1 fun a' w' ι' hR' hS => ?_
      refine ih (l1 ++ l2) (listed.setIfInBounds i true) (by simp at hlen ⊢; omega) (by simpa using hsz) ?_ ?_ ?_ ?_ hR' hrun1 (fun a2 w2 ι2 hR2 hS2 => hQ a2 w2 ι2 hR2 (hS.trans hS2))
      · intro x hx
        have hxm : x ∈ l1 ++ (i, oi) :: l2 := by
          rcases List.mem_append.1 hx with h | h
          · exact List.mem_append_left _ h
          · exact List.mem_append_right _ (by simp [h])
        obtain ⟨h4, h5⟩ := h1 x hxm
        refine ⟨h4, ?_⟩
        have hne : x.1 ≠ i := by
          rcases List.mem_append.1 hx with h | h
          · have := hlow x h; omega
          · have := hhigh x h; omega
        rw [getD_set_ne true (Ne.symm hne)]
        exact h5
      · intro j hj hl
        by_cases hji : j = i
        · subst hji
          have : j < listed.size := by rw [hsz]; exact hj
          simp [this] at hl
        · rw [getD_set_ne false (Ne.symm hji)] at hl
          obtain ⟨o, ho⟩ := h2 j hj hl
          refine ⟨o, ?_⟩
          rcases List.mem_append.1 ho with h | h
          · exact List.mem_append_left _ h
          · rcases List.mem_cons.1 h with h | h
            · cases h; exact absurd rfl hji
            · exact List.mem_append_right _ h
      · refine List.pairwise_append.2 ⟨hpair.1, (List.pairwise_cons.1 hpair.2.1).2, fun x hx y hy => ?_⟩
        have := hlow x hx
        have := hhigh y hy
        omega
      · intro k o ho hl e he hb
        by_cases hki : k = i
        · subst hki
          rw [hoi] at ho
          cases ho
          exact getD_set_true (hall e he hb)
        · rw [getD_set_ne false (Ne.symm hki)] at hl
          exact getD_set_true (h3 k o ho hl e he hb)
theorem exists_min {P : Nat → Prop} (h : ∃ n, P n) : ∃ n, P n ∧ ∀ m, P m → n ≤ m := by
  obtain ⟨n, hn⟩ := h
  induction n using Nat.strongRecOn with
  | _ n ih =>
    by_cases hx : ∃ m, m < n ∧ P m
    · obtain ⟨m, hm, hp⟩ := hx
      exact ih m hm hp
    · exact ⟨n, hn, fun m hm => Nat.le_of_not_lt fun hlt => hx ⟨m, hlt, hm⟩⟩
open Classical in
noncomputable def sInfN (P : Nat → Prop) : Nat := if h : ∃ n, P n then Classical.choose (exists_min h) else 0
theorem sInfN_spec {P : Nat → Prop} (h : ∃ n, P n) : P (sInfN P) := by
  unfold sInfN
  rw [dif_pos h]
  exact (Classical.choose_spec (exists_min h)).1
theorem sInfN_le {P : Nat → Prop} {n : Nat} (h : P n) : sInfN P ≤ n := by
  unfold sInfN
  rw [dif_pos ⟨n, h⟩]
  exact (Classical.choose_spec (exists_min ⟨n, h⟩)).2 n h
theorem pairsOK_mono {pr pr' : Pairs} (h : ∀ j x i o, pr j x i o = true → pr' j x i o = true) {ms : List Nat} {i : Nat} {o : Oper} : ∀ (xs : List Oper) (j : Nat), pairsOK pr ms i o xs j = true → pairsOK pr' ms i o xs j = true
  | [], _, _ => rfl
  | x :: xs, j, e => by
    simp only [pairsOK, Bool.and_eq_true, Bool.or_eq_true] at e ⊢
    exact ⟨e.1.imp id fun e => e.imp id (h _ _ _ _), pairsOK_mono h xs _ e.2⟩
theorem allOK_mono {pr pr' : Pairs} (h : ∀ j x i o, pr j x i o = true → pr' j x i o = true) {l : List Oper} {ms : List Nat} : ∀ (os : List Oper) (i : Nat), allOK pr l ms os i = true → allOK pr' l ms os i = true
  | [], _, _ => rfl
  | o :: os, i, e => by
    simp only [allOK, Bool.and_eq_true] at e ⊢
    exact ⟨e.1, pairsOK_mono h _ _ e.2.1, allOK_mono h os _ e.2.2⟩
theorem drawD_of {ops : Array Oper} {E : Env} (h : drawOK cfg cur ops = true) : drawD cfg cur ops E = true :=
  allOK_mono (fun j x i o e => by rw [e]; rfl) _ _ h
theorem exec_sound (hC : CfgOK cfg drawOK) : ∀ k, XOK cfg drawOK (exec cfg k) := by
  intro k
  induction k using Nat.strongRecOn with
  | _ k ihk =>
  cases k with
  | zero => intro cur c s e s' _ h; simp [exec] at h
  | succ k =>
    have ih := ihk k (by omega)
    intro cur c s e s' hok h D O0 ι a w hR
    cases c with
    | skip =>
      simp only [exec] at h
      cases h
      exact wp_skip ⟨rfl, ι, hR, .refl⟩
    | label l =>
      simp only [exec] at h
      cases h
      exact wp_label ⟨rfl, ι, hR, .refl⟩
    | region id ops d =>
      simp only [exec] at h
      split at h
      rotate_left
      · cases h
      rename_i s1 hrun
      have hdraw : d = true → drawD cfg cur ops s1.env = true := by
        intro hd
        subst hd
        cases hbad : cfg.bad cur id with
        | true =>
          rw [hbad] at h
          simp only [Bool.and_self] at h
          split at h
          · assumption
          · cases h
        | false =>
          simp only [codeOK, hbad, Bool.not_true, Bool.false_or] at hok
          exact drawD_of hok
      have he : (Ex.normal, s1) = (e, s') := by
        split at h
        · split at h
          · exact Option.some.inj h
          · cases h
        · exact Option.some.inj h
      cases he
      have hR1 : Rel cfg D O0 ι { s with m := s.m + ops.size } a w := ⟨hR.inv, hR.env, hR.size, hR.sz, hR.defers⟩
      cases d with
      | false =>
        refine wp_region ?_
        have := runOps_sound (Q := fun ex a' w' => ex = Ex.normal.conv ∧ ∃ ι', Rel cfg D O0 ι' s' a' w' ∧ Step ι s.H w ι' s'.H w') hC ih ops.toList 0 hR1 (by simp) hrun (fun a' w' ι' h1 h2 => ⟨rfl, ι', h1, h2⟩)
        rw [List.range_eq_range', ← Array.length_toList]
        exact this
      | true =>
        have hok : drawD cfg cur ops s'.env = true := hdraw rfl
        refine wp_region_any hC.mixed ?_
        have hg : Grown w { w with drawn := w.drawn + 1 } := ⟨rfl, rfl, rfl, Nat.le_refl _, fun _ _ => rfl⟩
        have hR2 : Rel cfg D O0 ι { s with m := s.m + ops.size } a { w with drawn := w.drawn + 1 } := ⟨hR.inv.grown hg, fun t => V.mono hg.ext _ _ (hR.env t), hR.size, hR.sz, hR.defers⟩
        rw [runL_of_ops] at hrun
        have hlen : ((List.range' 0 ops.toList.length).zip ops.toList).length ≤ ops.size := by simp
        refine wpAny_runL hC ih hok ops.size _ (Array.replicate ops.size false) hlen (by simp) ?_ ?_ ?_ ?_ hR2 hrun (fun a' w' ι' h1 h2 => ⟨rfl, ι', h1, hg.step.trans h2⟩)
        · intro x hx
          obtain ⟨n, hn⟩ := List.mem_iff_getElem?.1 hx
          rw [List.getElem?_zip_eq_some] at hn
          obtain ⟨h1, h2⟩ := hn
          have hx1 : x.1 = n := by
            rw [List.getElem?_range' (List.getElem?_eq_some_iff.1 h2).1] at h1
            simp at h1
            omega
          rw [hx1]
          have h3 : ops[n]? = some x.2 := by simpa using h2
          refine ⟨h3, ?_⟩
          have := (Array.getElem?_eq_some_iff.1 h3).1
          simp [this]
        · intro j hj _
          refine ⟨ops[j], List.mem_iff_getElem?.2 ⟨j, ?_⟩⟩
          rw [List.getElem?_zip_eq_some]
          refine ⟨by simp [hj], by simp [hj]⟩
        · have : ((List.range' 0 ops.toList.length).zip ops.toList).map (·.1) = List.range' 0 ops.toList.length := by
            rw [List.map_fst_zip]
            simp
          have hpw : (List.range' 0 ops.toList.length).Pairwise (· < ·) := List.pairwise_lt_range'
          rw [← this, List.pairwise_map] at hpw
          exact hpw
        · intro k o ho hl
          have hlt := (Array.getElem?_eq_some_iff.1 ho).1
          simp [hlt] at hl
    | seq x y =>
      simp only [codeOK, Bool.and_eq_true] at hok
      simp only [exec] at h
      refine wp_seq (Code.wp_mono (Q := fun ex a' w' => ∃ e1 s1, exec cfg k cur x s = some (e1, s1) ∧ ex = e1.conv ∧ ∃ ι', Rel cfg D O0 ι' s1 a' w' ∧ Step ι s.H w ι' s1.H w') ?_ ?_)
      · rintro ex a' w' ⟨e1, s1, hx, rfl, ι', h1, h2⟩
        rw [hx] at h
        cases e1 with
        | normal =>
          simp only at h
          refine Code.wp_mono ?_ (ih cur y s1 e s' hok.2 h O0 ι' a' w' h1)
          rintro ex a2 w2 ⟨rfl, ι2, h3, h4⟩
          exact ⟨rfl, ι2, h3, h2.trans h4⟩
        | exit id => cases h; exact ⟨rfl, ι', h1, h2⟩
        | ret => cases h; exact ⟨rfl, ι', h1, h2⟩
      · cases hx : exec cfg k cur x s with
        | none => rw [hx] at h; cases h
        | some r =>
          obtain ⟨e1, s1⟩ := r
          refine Code.wp_mono ?_ (ih cur x s e1 s1 hok.1 hx O0 ι a w hR)
          rintro ex a' w' ⟨rfl, ι', h1, h2⟩
          exact ⟨e1, s1, rfl, rfl, ι', h1, h2⟩
    | cond c x y =>
      simp only [codeOK, Bool.and_eq_true] at hok
      simp only [exec] at h
      have hcond : ∀ b, condA cfg s c = some b → a.eval c = .bool b := by
        intro b hb
        unfold condA at hb
        split at hb <;> cases hb
        rename_i hc
        exact V.lit_iff.1 (evO_sound hR c _ hc)
      split at h
      · rename_i hb
        refine wp_cond (hcond _ hb) ?_
        exact ih cur x s e s' hok.1 h O0 ι a w hR
      · rename_i hb
        refine wp_cond (hcond _ hb) ?_
        exact ih cur y s e s' hok.2 h O0 ι a w hR
      · cases h
    | block id b =>
      simp only [codeOK] at hok
      simp only [exec] at h
      refine wp_block ?_
      cases hx : exec cfg k cur b s with
      | none => rw [hx] at h; cases h
      | some r =>
        obtain ⟨e1, s1⟩ := r
        rw [hx] at h
        refine Code.wp_mono ?_ (ih cur b s e1 s1 hok hx O0 ι a w hR)
        rintro ex a' w' ⟨rfl, ι', h1, h2⟩
        cases e1 with
        | normal => cases h; exact ⟨rfl, ι', h1, h2⟩
        | ret => cases h; exact ⟨rfl, ι', h1, h2⟩
        | exit id' =>
          simp only at h
          simp only [Ex.conv, Exit.inBlock]
          split at h
          · rename_i hid
            cases h
            rw [if_pos hid]
            exact ⟨rfl, ι', h1, h2⟩
          · rename_i hid
            cases h
            rw [if_neg hid]
            exact ⟨rfl, ι', h1, h2⟩
    | loop b =>
      simp only [codeOK] at hok
      -- the rounds that are still to come
      refine wp_loop (fun a' w' => ∃ n s1 ι', n ≤ k + 1 ∧ exec cfg n cur (.loop b) s1 = some (e, s') ∧ Rel cfg D O0 ι' s1 a' w' ∧ Step ι s.H w ι' s1.H w')
        (fun a' w' => sInfN fun n => ∃ s1 ι', n ≤ k + 1 ∧ exec cfg n cur (.loop b) s1 = some (e, s') ∧ Rel cfg D O0 ι' s1 a' w' ∧ Step ι s.H w ι' s1.H w') ⟨k + 1, s, ι, Nat.le_refl _, h, hR, .refl⟩ ?_
      intro a1 w1 hex
      obtain ⟨s1, ι1, hn, hrun, hR1, hS1⟩ := sInfN_spec hex
      generalize hN : (sInfN fun n => ∃ s1 ι', n ≤ k + 1 ∧ exec cfg n cur (.loop b) s1 = some (e, s') ∧ Rel cfg D O0 ι' s1 a1 w1 ∧ Step ι s.H w ι' s1.H w1) = N at hn hrun
      cases N with
      | zero => simp [exec] at hrun
      | succ N =>
        simp only [exec] at hrun
        cases hx : exec cfg N cur b s1 with
        | none => rw [hx] at hrun; cases hrun
        | some r =>
          obtain ⟨e2, s2⟩ := r
          rw [hx] at hrun
          have hNk : XOK cfg drawOK (exec cfg N) := ihk N (by omega)
          refine Code.wp_mono ?_ (hNk cur b s1 e2 s2 hok hx O0 ι1 a1 w1 hR1)
          rintro ex a' w' ⟨rfl, ι', h1, h2⟩
          cases e2 with
          | normal =>
            have hP : ∃ s1 ι', N ≤ k + 1 ∧ exec cfg N cur (.loop b) s1 = some (e, s') ∧ Rel cfg D O0 ι' s1 a' w' ∧ Step ι s.H w ι' s1.H w' := ⟨s2, ι', by omega, hrun, h1, hS1.trans h2⟩
            refine ⟨⟨N, hP⟩, ?_⟩
            have := sInfN_le (P := fun n => ∃ s1 ι', n ≤ k + 1 ∧ exec cfg n cur (.loop b) s1 = some (e, s') ∧ Rel cfg D O0 ι' s1 a' w' ∧ Step ι s.H w ι' s1.H w') hP
            omega
          | exit id => cases hrun; exact ⟨rfl, ι', h1, hS1.trans h2⟩
          | ret => cases hrun; exact ⟨rfl, ι', h1, hS1.trans h2⟩
    | scope b =>
      simp only [codeOK] at hok
      simp only [exec] at h
      refine wp_scope_straight (Code.wp_mono ?_ (ih cur b s e s' hok h O0 ι a w hR))
      rintro ex a' w' ⟨rfl, r⟩
      cases e with
      | normal => exact ⟨rfl, r⟩
      | exit id => exact ⟨rfl, r⟩
      | ret => exact ⟨rfl, r⟩
    | exit id =>
      simp only [exec] at h
      cases h
      exact wp_exit ⟨rfl, ι, hR, .refl⟩
    | ret =>
      simp only [exec] at h
      cases h
      exact wp_ret ⟨rfl, ι, hR, .refl⟩
    | _ => simp [exec] at h
end
end Go.Proofs.YthabndifdgafbaaGreatDoor.RV
end
