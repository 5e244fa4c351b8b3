/- Symbolic runs of functions by the evaluator: the rules (Mono, SvA, SvB, SvC). Conditions: none. -/
import Derived.Test.YtddaogebacigbaaGreatDoorRvB
import Derived.Test.YtddaogebacigbaaGreatDoorRvC
import Derived.Test.YtddaogebacigbaaGreatDoorRvT
import Derived.Test.YtddaogebacigbaaGreatDoorRvJ
section
set_option linter.unusedVariables false
namespace Go.Proofs.YtddaogebacigbaaGreatDoor.RV
def LeR (X Y : Run) : Prop := ∀ f c s r, X f c s = some r → Y f c s = some r
variable {cfg : Cfg} {X Y : Run}

theorem callA_mono (h : LeR X Y) {f args H m r} (e : callA cfg X f args H m = some r) : callA cfg Y f args H m = some r := by
  unfold callA at e ⊢
  split at e
  · exact e
  · split at e
    · exact e
    · split at e
      · exact e
      · split at e
        · rename_i hl
          rw [if_pos hl]
          split at e
          · cases e
          · rename_i x s hx hex
            rw [h _ _ _ _ hex]
            cases x with
            | exit id => exact absurd rfl (hx id)
            | normal => exact e
            | ret => exact e
          · cases e
        · cases e
theorem callPure_mono (h : LeR X Y) {f args r} (e : callPure cfg X f args = some r) : callPure cfg Y f args = some r := by
  unfold callPure at e ⊢
  split at e
  · exact e
  · split at e
    · rename_i hc; rw [callA_mono h hc]; exact e
    · cases e
theorem pureCall_mono (h : LeR X Y) {f args r} (e : pureCall cfg X f args = some r) : pureCall cfg Y f args = some r := by
  unfold pureCall at e ⊢
  split at e
  · exact callPure_mono h e
  · exact e
  · exact e
theorem importA_mono (h : LeR X Y) {f args id r} (e : importA cfg X f args id = some r) : importA cfg Y f args id = some r := by
  unfold importA at e ⊢
  split at e
  · exact e
  · split at e
    · rename_i hc; rw [callA_mono h hc]; exact e
    · cases e
theorem newOf_mono (h : LeR X Y) {env o id r} (e : newOf cfg X env o id = some r) : newOf cfg Y env o id = some r := by
  unfold newOf at e ⊢
  split at e
  · split at e
    · exact importA_mono h e
    · cases e
  · exact e
theorem effPure_mono (h : LeR X Y) {env o r} (e : effPure cfg X env o = some r) : effPure cfg Y env o = some r := by
  unfold effPure at e ⊢
  split at e
  · split at e
    · exact pureCall_mono h e
    · cases e
  · exact e
theorem effRead_mono (h : LeR X Y) {env H o r} (e : effRead cfg X env H o = some r) : effRead cfg Y env H o = some r := by
  unfold effRead at e ⊢
  split at e
  · split at e
    · split at e
      · split at e
        · rename_i hc; rw [callPure_mono h hc]; exact e
        · cases e
      · cases e
    · cases e
  · exact e
theorem effWild_mono (h : LeR X Y) {env H m o r} (e : effWild cfg X env H m o = some r) : effWild cfg Y env H m o = some r := by
  unfold effWild at e ⊢
  split at e
  · split at e
    · split at e
      · split at e
        · exact callA_mono h e
        · split at e
          · rename_i hc; rw [pureCall_mono h hc]; exact e
          · cases e
      · cases e
    · cases e
  · cases e
theorem effA_mono (h : LeR X Y) {cur ops base i o env H m r} (e : effA cfg X cur ops base i o env H m = some r) : effA cfg Y cur ops base i o env H m = some r := by
  unfold effA at e ⊢
  split at e
  · exact e
  · split at e
    · split at e
      · rename_i hc; rw [effPure_mono h hc]; exact e
      · cases e
    · split at e
      · rename_i hc; rw [newOf_mono h hc]; exact e
      · cases e
    · split at e
      · rename_i hc; rw [effRead_mono h hc]; exact e
      · cases e
    · exact e
    · exact effWild_mono h e
theorem stepA_mono (h : LeR X Y) {cur ops base i o s r} (e : stepA cfg X cur ops base i o s = some r) : stepA cfg Y cur ops base i o s = some r := by
  unfold stepA at e ⊢
  split at e
  · rename_i hc; rw [effA_mono h hc]; exact e
  · cases e
theorem runOps_mono (h : LeR X Y) {cur ops base} : ∀ (l : List Oper) (i : Nat) (s r : St), runOps cfg X cur ops base l i s = some r → runOps cfg Y cur ops base l i s = some r
  | [], _, _, _, e => e
  | o :: os, i, s, r, e => by
    unfold runOps at e ⊢
    split at e
    · rename_i hc; rw [stepA_mono h hc]; exact runOps_mono h os _ _ _ e
    · cases e
theorem exec_mono1 : ∀ k, LeR (exec cfg k) (exec cfg (k + 1))
  | 0, _, _, _, _, e => by simp [exec] at e
  | k + 1, cur, c, s, r, e => by
    have ih := exec_mono1 k
    unfold exec at e ⊢
    cases c <;> first | exact e | skip
    · dsimp only at e ⊢
      split at e
      · rename_i hc; rw [runOps_mono ih _ _ _ _ hc]; exact e
      · cases e
    · dsimp only at e ⊢
      split at e
      · rename_i hc; rw [ih _ _ _ _ hc]; exact ih _ _ _ _ e
      · rename_i x hx
        obtain ⟨ex, s1⟩ := r
        rw [ih _ _ _ _ e]
        cases ex with
        | normal => exact absurd e (hx _)
        | _ => rfl
    · dsimp only at e ⊢
      split at e
      · exact ih _ _ _ _ e
      · exact ih _ _ _ _ e
      · cases e
    · dsimp only at e ⊢
      split at e
      · rename_i hc; rw [ih _ _ _ _ hc]; exact e
      · rename_i x hx
        obtain ⟨ex, s1⟩ := r
        rw [ih _ _ _ _ e]
        cases ex with
        | exit id => exact absurd e (hx _ _)
        | _ => rfl
    · dsimp only at e ⊢
      split at e
      · rename_i hc; rw [ih _ _ _ _ hc]; exact ih _ _ _ _ e
      · rename_i x hx
        obtain ⟨ex, s1⟩ := r
        rw [ih _ _ _ _ e]
        cases ex with
        | normal => exact absurd e (hx _)
        | _ => rfl
theorem exec_mono {k n : Nat} (h : k ≤ n) : LeR (exec cfg k) (exec cfg n) := by
  induction h with
  | refl => exact fun _ _ _ _ e => e
  | step _ ih => exact fun _ _ _ _ e => exec_mono1 _ _ _ _ _ (ih _ _ _ _ e)
end Go.Proofs.YtddaogebacigbaaGreatDoor.RV
end
section
set_option linter.unusedVariables false
namespace Go.Proofs.YtddaogebacigbaaGreatDoor.RV
variable {cfg : Cfg} {cur : FuncId}

/-- The code comes to an end of which Q holds. -/
def Ev (cfg : Cfg) (cur : FuncId) (c : Code) (s : St) (Q : Ex → St → Prop) : Prop := ∃ k e s', exec cfg k cur c s = some (e, s') ∧ Q e s'
def Ro (cfg : Cfg) (cur : FuncId) (ops : Array Oper) (base : Nat) (l : List Oper) (i : Nat) (s : St) (Q : St → Prop) : Prop :=
  ∃ k s', runOps cfg (exec cfg k) cur ops base l i s = some s' ∧ Q s'
def Fn (cfg : Cfg) (f : FuncId) (args : List PV) (Q : PV → Prop) : Prop := ∃ k p, callPure cfg (exec cfg k) f args = some p ∧ Q p
def Fm (cfg : Cfg) (f : FuncId) (args : List PV) (H : Heap) (m : Nat) (Q : PV → Heap → Nat → Prop) : Prop :=
  ∃ k p H' m', callA cfg (exec cfg k) f args H m = some (p, H', m') ∧ Q p H' m'

def Thn (cfg : Cfg) (cur : FuncId) (b : Code) (Q : Ex → St → Prop) : Ex → St → Prop
  | .normal, s => Ev cfg cur b s Q
  | .exit id, s => Q (.exit id) s
  | .ret, s => Q .ret s
def Blk (id : Nat) (Q : Ex → St → Prop) : Ex → St → Prop
  | .exit id', s => if id' = id then Q .normal s else Q (.exit id') s
  | .normal, s => Q .normal s
  | .ret, s => Q .ret s

theorem Ev.mono {c s} {Q R : Ex → St → Prop} (h : Ev cfg cur c s Q) (hq : ∀ e s', Q e s' → R e s') : Ev cfg cur c s R := by
  obtain ⟨k, e, s', h1, h2⟩ := h
  exact ⟨k, e, s', h1, hq _ _ h2⟩
theorem Ev.skip {s} {Q : Ex → St → Prop} (h : Q .normal s) : Ev cfg cur .skip s Q := ⟨1, _, _, rfl, h⟩
theorem Ev.label {id s} {Q : Ex → St → Prop} (h : Q .normal s) : Ev cfg cur (.label id) s Q := ⟨1, _, _, rfl, h⟩
theorem Ev.exit {id s} {Q : Ex → St → Prop} (h : Q (.exit id) s) : Ev cfg cur (.exit id) s Q := ⟨1, _, _, rfl, h⟩
theorem Ev.ret {s} {Q : Ex → St → Prop} (h : Q .ret s) : Ev cfg cur .ret s Q := ⟨1, _, _, rfl, h⟩
theorem Ev.seq {a b s} {Q : Ex → St → Prop} (h : Ev cfg cur a s (Thn cfg cur b Q)) : Ev cfg cur (.seq a b) s Q := by
  obtain ⟨k, e, s', h1, h2⟩ := h
  cases e with
  | normal =>
    obtain ⟨k2, e2, s2, h3, h4⟩ := h2
    refine ⟨max k k2 + 1, e2, s2, ?_, h4⟩
    unfold exec
    dsimp only
    rw [exec_mono (Nat.le_max_left k k2) _ _ _ _ h1]
    exact exec_mono (Nat.le_max_right k k2) _ _ _ _ h3
  | exit id => refine ⟨k + 1, _, s', ?_, h2⟩; unfold exec; dsimp only; rw [h1]
  | ret => refine ⟨k + 1, _, s', ?_, h2⟩; unfold exec; dsimp only; rw [h1]
theorem Ev.cond {c a b s t} {Q : Ex → St → Prop} (hc : condA cfg s c = some t) (h1 : t = true → Ev cfg cur a s Q) (h2 : t = false → Ev cfg cur b s Q) : Ev cfg cur (.cond c a b) s Q := by
  cases t with
  | true =>
    obtain ⟨k, e, s', h1, h2⟩ := h1 rfl
    exact ⟨k + 1, e, s', by unfold exec; dsimp only; rw [hc]; exact h1, h2⟩
  | false =>
    obtain ⟨k, e, s', h1, h2⟩ := h2 rfl
    exact ⟨k + 1, e, s', by unfold exec; dsimp only; rw [hc]; exact h1, h2⟩
theorem Ev.block {id b s} {Q : Ex → St → Prop} (h : Ev cfg cur b s (Blk id Q)) : Ev cfg cur (.block id b) s Q := by
  obtain ⟨k, e, s', h1, h2⟩ := h
  cases e with
  | exit id' =>
    by_cases hi : id' = id
    · refine ⟨k + 1, .normal, s', ?_, by simpa [Blk, hi] using h2⟩
      unfold exec; dsimp only; rw [h1]; simp only [hi, if_true]
    · refine ⟨k + 1, .exit id', s', ?_, by simpa [Blk, hi] using h2⟩
      unfold exec; dsimp only; rw [h1]; simp only [hi, if_false]
  | normal => refine ⟨k + 1, _, s', ?_, h2⟩; unfold exec; dsimp only; rw [h1]
  | ret => refine ⟨k + 1, _, s', ?_, h2⟩; unfold exec; dsimp only; rw [h1]
theorem Ev.loop1 {b s} {Q : Ex → St → Prop} (h : Ev cfg cur b s (Thn cfg cur (.loop b) Q)) : Ev cfg cur (.loop b) s Q := by
  obtain ⟨k, e, s', h1, h2⟩ := h
  cases e with
  | normal =>
    obtain ⟨k2, e2, s2, h3, h4⟩ := h2
    refine ⟨max k k2 + 1, e2, s2, ?_, h4⟩
    unfold exec
    dsimp only
    rw [exec_mono (Nat.le_max_left k k2) _ _ _ _ h1]
    exact exec_mono (Nat.le_max_right k k2) _ _ _ _ h3
  | exit id => refine ⟨k + 1, _, s', ?_, h2⟩; unfold exec; dsimp only; rw [h1]
  | ret => refine ⟨k + 1, _, s', ?_, h2⟩; unfold exec; dsimp only; rw [h1]
/-- The end of a round: less is left to be done, or it is over. -/
def Rnd (I : Nat → St → Prop) (n : Nat) (Q : Ex → St → Prop) : Ex → St → Prop
  | .normal, s => ∃ n', n' < n ∧ I n' s
  | .exit id, s => Q (.exit id) s
  | .ret, s => Q .ret s
theorem Ev.loop {b : Code} (I : Nat → St → Prop) {Q : Ex → St → Prop} (hr : ∀ n s, I n s → Ev cfg cur b s (Rnd I n Q)) : ∀ (n : Nat) (s : St), I n s → Ev cfg cur (.loop b) s Q := by
  intro n
  induction n using Nat.strongRecOn with
  | _ n ih =>
    intro s hs
    refine Ev.loop1 ((hr n s hs).mono ?_)
    intro e s' h
    cases e with
    | normal => obtain ⟨n', hn, hI⟩ := h; exact ih n' hn _ hI
    | exit id => exact h
    | ret => exact h
theorem Ev.region {id ops d s} {Q : Ex → St → Prop} (hb : (d && cfg.bad cur id) = false) (h : Ro cfg cur ops s.m ops.toList 0 ⟨s.env, s.H, s.m + ops.size, s.sz⟩ (Q .normal)) : Ev cfg cur (.region id ops d) s Q := by
  obtain ⟨k, s', h1, h2⟩ := h
  refine ⟨k + 1, .normal, s', ?_, h2⟩
  unfold exec
  dsimp only
  rw [h1]
  dsimp only
  rw [hb]
/-- A region whose orders are looked at where it ends. -/
theorem Ev.regionD {id ops d s} {Q : Ex → St → Prop} (h : Ro cfg cur ops s.m ops.toList 0 ⟨s.env, s.H, s.m + ops.size, s.sz⟩ (fun s' => drawD cfg cur ops s'.env = true ∧ Q .normal s')) : Ev cfg cur (.region id ops d) s Q := by
  obtain ⟨k, s', h1, h3, h2⟩ := h
  refine ⟨k + 1, .normal, s', ?_, h2⟩
  unfold exec
  dsimp only
  rw [h1]
  dsimp only
  rw [h3]
  split <;> rfl
theorem Ro.nil {ops base i s} {Q : St → Prop} (h : Q s) : Ro cfg cur ops base [] i s Q := ⟨0, s, rfl, h⟩
def noX : Run := fun _ _ _ => none
theorem noX_le (X : Run) : LeR noX X := fun _ _ _ _ h => by cases h
theorem Ro.step {ops base o os i s s'} {Q : St → Prop} (h : stepA cfg noX cur ops base i o s = some s') (h2 : Ro cfg cur ops base os (i + 1) s' Q) : Ro cfg cur ops base (o :: os) i s Q := by
  obtain ⟨k, r, h1, h2⟩ := h2
  refine ⟨k, r, ?_, h2⟩
  unfold runOps
  rw [stepA_mono (noX_le _) h]
  exact h1
theorem Ro.stepX {ops base o os i s s' k} {Q : St → Prop} (h : stepA cfg (exec cfg k) cur ops base i o s = some s') (h2 : Ro cfg cur ops base os (i + 1) s' Q) : Ro cfg cur ops base (o :: os) i s Q := by
  obtain ⟨n, r, h1, h2⟩ := h2
  refine ⟨max k n, r, ?_, h2⟩
  unfold runOps
  rw [stepA_mono (exec_mono (Nat.le_max_left k n)) h]
  exact runOps_mono (exec_mono (Nat.le_max_right k n)) _ _ _ _ h1
theorem Ro.run {ops base l i s s'} {Q : St → Prop} (h : runOps cfg noX cur ops base l i s = some s') (h2 : Q s') : Ro cfg cur ops base l i s Q :=
  ⟨0, s', runOps_mono (noX_le _) _ _ _ _ h, h2⟩

def isEnd : Ex → Bool
  | .exit _ => false
  | _ => true
theorem Fm.of {f : FuncId} {fn : Func} {c : Code} {args H m} {Q : PV → Heap → Nat → Prop} (hf : cfg.P.funcs[f]? = some fn) (hc : fn.body = some c) (hs : cfg.fns f = true) (hn : args.length ≤ fn.ntmps ∧ fn.ntmps ≤ 8000)
    (h : Ev cfg f c ⟨envOf args 0 .e, H, m, fn.ntmps⟩ fun e s => isEnd e = true ∧ ∃ p, resA cfg.P s fn.results.toList = some p ∧ Q p s.H s.m) : Fm cfg f args H m Q := by
  obtain ⟨k, e, s, h1, he, p, hp, hq⟩ := h
  refine ⟨k, p, s.H, s.m, ?_, hq⟩
  unfold callA
  rw [hs]
  dsimp only
  rw [hf]
  dsimp only
  rw [hc]
  dsimp only
  rw [if_pos hn, h1]
  cases e with
  | exit id => cases he
  | normal => dsimp only; rw [hp]
  | ret => dsimp only; rw [hp]
theorem Fn.of {f : FuncId} {fn : Func} {c : Code} {args} {Q : PV → Prop} (hf : cfg.P.funcs[f]? = some fn) (hc : fn.body = some c) (hs : cfg.fns f = true) (hn : args.length ≤ fn.ntmps ∧ fn.ntmps ≤ 8000) (hd : deepL args = true)
    (h : Ev cfg f c ⟨envOf args 0 .e, .e, 0, fn.ntmps⟩ fun e s => isEnd e = true ∧ ∃ p q, resA cfg.P s fn.results.toList = some p ∧ deepen s.H fuelD p = some q ∧ Q q) : Fn cfg f args Q := by
  obtain ⟨k, p, H', m', h1, q, h2, h3⟩ := Fm.of (Q := fun p H _ => ∃ q, deepen H fuelD p = some q ∧ Q q) hf hc hs hn (h.mono fun e s ⟨he, p, q, hp, hq, hQ⟩ => ⟨he, p, hp, q, hq, hQ⟩)
  refine ⟨k, q, ?_, h3⟩
  unfold callPure
  rw [hd]
  dsimp only
  rw [h1]
  exact h2
end Go.Proofs.YtddaogebacigbaaGreatDoor.RV
end
section
set_option linter.unusedVariables false
namespace Go.Proofs.YtddaogebacigbaaGreatDoor.RV
variable {cfg : Cfg} {cur : FuncId}

/-! ### What is known of a frame, and of the call's own memory -/
abbrev Fr := List (Nat × PV)
abbrev Mem := List (Nat × Nat × HObj)
def lk : Fr → Nat → Option PV
  | [], _ => none
  | (a, p) :: r, t => match Nat.beq a t with | true => some p | false => lk r t
def Cv (env : Env) (L : Fr) : Prop := ∀ t p, lk L t = some p → env.at t = p
def evl (cfg : Cfg) (L : Fr) : Operand → Option PV
  | .tmp t => lk L t
  | .const v => some (ofVal v)
  | .global g => match cfg.glob g with | some l => some (.dptr l 0) | none => none
  | .func f => some (.clo f [] [])
def evls (cfg : Cfg) (L : Fr) : List Operand → Option (List PV)
  | [] => some []
  | x :: xs => match evl cfg L x with
    | some p => match evls cfg L xs with | some ps => some (p :: ps) | none => none
    | none => none
theorem evl_ok {env : Env} {L : Fr} (h : Cv env L) {x : Operand} {p : PV} (e : evl cfg L x = some p) : evO cfg env x = some p := by
  cases x with
  | tmp t => exact congrArg some (h t p e)
  | const v => exact e
  | global g => exact e
  | func f => exact e
theorem evls_ok {env : Env} {L : Fr} (h : Cv env L) : ∀ {xs : List Operand} {ps : List PV}, evls cfg L xs = some ps → evOs cfg env xs = some ps
  | [], ps, e => e
  | x :: xs, ps, e => by
    unfold evls at e
    unfold evOs
    split at e
    · rename_i p hp
      rw [evl_ok h hp]
      split at e
      · rename_i q hq
        dsimp only
        rw [evls_ok h hq]
        exact e
      · cases e
    · cases e
theorem Cv.put {env : Env} {L : Fr} (h : Cv env L) (d : Nat) (p : PV) : Cv (env.put d p) ((d, p) :: L) := by
  intro t q hq
  unfold lk at hq
  unfold Env.at
  rw [put_get]
  split at hq
  · rename_i e
    cases hq
    rw [if_pos (Nat.eq_of_beq_eq_true e).symm]
  · rename_i e
    rw [if_neg (fun hh => by rw [hh, Nat.beq_refl] at e; cases e)]
    exact h t q hq
def CvH (H : Heap) (M : Mem) : Prop := (M.map (·.1)).Nodup ∧ ∀ id v o, (id, v, o) ∈ M → H.get id = some (v, o)
theorem CvH.obj {H : Heap} {M : Mem} (h : CvH H M) {k id v : Nat} {o : HObj} (e : M[k]? = some (id, v, o)) : obj H id v = some o := by
  have := h.2 id v o (List.mem_of_getElem? e)
  unfold RV.obj
  rw [this]
  simp
theorem CvH.new {H : Heap} {M : Mem} (h : CvH H M) {id : Nat} (hn : H.get id = none) (v : Nat) (o : HObj) : CvH (H.put id (v, o)) ((id, v, o) :: M) := by
  refine ⟨List.nodup_cons.2 ⟨fun hm => ?_, h.1⟩, fun id' v' o' hm => ?_⟩
  · obtain ⟨⟨a, b, c⟩, hm2, rfl⟩ := List.mem_map.1 hm
    dsimp only at hn
    rw [h.2 _ _ _ hm2] at hn
    cases hn
  · rw [put_get]
    rcases List.mem_cons.1 hm with e | hm
    · cases e
      rw [if_pos rfl]
    · have := h.2 _ _ _ hm
      rw [if_neg (fun e => by rw [e, hn] at this; cases this)]
      exact this
theorem CvH.perm {H : Heap} {M M' : Mem} (h : CvH H M) (hp : M.Perm M') : CvH H M' :=
  ⟨(hp.map _).nodup_iff.1 h.1, fun id v o hm => h.2 id v o (hp.mem_iff.2 hm)⟩
theorem CvH.sublist {H : Heap} {M M' : Mem} (h : CvH H M) (hp : M'.Sublist M) : CvH H M' :=
  ⟨h.1.sublist (hp.map _), fun id v o hm => h.2 id v o (hp.subset hm)⟩
theorem set_ids : ∀ (M : Mem) (k id v v' : Nat) (o o' : HObj), M[k]? = some (id, v, o) → (M.set k (id, v', o')).map (·.1) = M.map (·.1)
  | [], k, _, _, _, _, _, h => by simp at h
  | x :: M, 0, id, v, v', o, o', h => by simp at h; subst h; rfl
  | x :: M, k + 1, id, v, v', o, o', h => by
    simp only [List.getElem?_cons_succ] at h
    simp only [List.set_cons_succ, List.map_cons, set_ids M k id v v' o o' h]
theorem CvH.set {H : Heap} {M : Mem} (h : CvH H M) {k id v : Nat} {o : HObj} (e : M[k]? = some (id, v, o)) (v' : Nat) (o' : HObj) : CvH (H.put id (v', o')) (M.set k (id, v', o')) := by
  refine ⟨by rw [set_ids _ _ _ _ _ _ _ e]; exact h.1, fun i w q hm => ?_⟩
  rw [put_get]
  obtain ⟨j, hj⟩ := List.getElem?_of_mem hm
  rw [List.getElem?_set] at hj
  by_cases hkj : k = j
  · rw [if_pos hkj] at hj
    split at hj <;> cases hj
    rw [if_pos rfl]
  · rw [if_neg hkj] at hj
    have hne : i ≠ id := by
      intro hh
      subst hh
      have hlt1 := (List.getElem?_eq_some_iff.1 e).1
      have hlt2 := (List.getElem?_eq_some_iff.1 hj).1
      have h1 : (M.map (·.1))[k]? = some i := by rw [List.getElem?_map, e]; rfl
      have h2 : (M.map (·.1))[j]? = some i := by rw [List.getElem?_map, hj]; rfl
      have hl : (M.map (·.1)).length = M.length := List.length_map ..
      have := (List.getElem?_inj (by rw [hl]; exact hlt1) h.1).1 (h1.trans h2.symm)
      exact hkj this
    rw [if_neg hne]
    exact h.2 _ _ _ (List.mem_of_getElem? hj)
def Fre (H : Heap) (a b m : Nat) : Prop := ∀ id, (a ≤ id ∧ id < b) ∨ m ≤ id → H.get id = none

/-- From whatever frame and memory of which this is known. -/
def Ps (sz : Nat) (L : Fr) (M : Mem) (Q : St → Prop) : Prop :=
  ∀ env H m, Cv env L → CvH H M → (∀ id, m ≤ id → H.get id = none) → Q ⟨env, H, m, sz⟩
/-- The same within a region, ahead of its operation 'i'. -/
def Rs (cfg : Cfg) (cur : FuncId) (ops : Array Oper) (n sz : Nat) (l : List Oper) (i : Nat) (L : Fr) (M : Mem) (Q : St → Prop) : Prop :=
  ∀ base env H m, i + l.length = n → base + n ≤ m → Cv env L → CvH H M → Fre H (base + i) (base + n) m → Ro cfg cur ops base l i ⟨env, H, m, sz⟩ Q

variable {sz : Nat} {L : Fr} {M : Mem} {ops : Array Oper} {n i : Nat} {os : List Oper} {Q : St → Prop} {R : Ex → St → Prop}

theorem Ps.mono {Q' : St → Prop} (h : Ps sz L M Q) (hq : ∀ s, Q s → Q' s) : Ps sz L M Q' := fun env H m h1 h2 h3 => hq _ (h env H m h1 h2 h3)
theorem Ps.region {id : Nat} {d : Bool} (hb : (d && cfg.bad cur id) = false) (h : Rs cfg cur ops ops.size sz ops.toList 0 L M (R .normal)) : Ps sz L M (fun s => Ev cfg cur (.region id ops d) s R) := by
  intro env H m h1 h2 h3
  refine Ev.region hb (h m env H (m + ops.size) (by simp) (Nat.le_refl _) h1 h2 ?_)
  rintro x (hx | hx)
  · exact h3 x (by omega)
  · exact h3 x (by omega)
/-- Pairs of a load and a later store that are looked at. -/
def drawS (cfg : Cfg) (cur : FuncId) (ops : Array Oper) (A : List (Nat × Nat)) : Bool :=
  allOK (fun j x i o => indep cfg cur ops x o || (A.any (fun q => Nat.beq q.1 j && Nat.beq q.2 i) && (x.apart ops o && (match x.guard, o.guard, x.op, o.op with
    | none, none, .load _ (.tmp a), .store _ (.tmp b) _ => noLater ops.toList j a && noLater ops.toList i b
    | _, _, _, _ => false)))) ops.toList (masks ops.toList []) ops.toList 0
def addrT (o : Option Oper) : Option Tmp :=
  match o with
  | some o => match o.op with
    | .load _ (.tmp a) => some a
    | .store _ (.tmp b) _ => some b
    | _ => none
  | none => none
/-- The addresses that the listed pairs look at lie in blocks that are not one. -/
def apartL (L : Fr) (ops : Array Oper) : List (Nat × Nat) → Prop
  | [] => True
  | (j, i) :: r => (∃ a b p q, addrT ops[j]? = some a ∧ addrT ops[i]? = some b ∧ lk L a = some p ∧ lk L b = some q ∧ ptrsApart p q = true) ∧ apartL L ops r
theorem allOK_monoE {pr pr' : Pairs} {l : List Oper} {ms : List Nat} (h : ∀ j x i o, l[j]? = some x → l[i]? = some o → pr j x i o = true → pr' j x i o = true) : ∀ (os : List Oper) (i : Nat), (∀ k o, os[k]? = some o → l[i + k]? = some o) → allOK pr l ms os i = true → allOK pr' l ms os i = true
  | [], _, _, _ => rfl
  | o :: os, i, ho, e => by
    simp only [allOK, Bool.and_eq_true] at e ⊢
    refine ⟨e.1, ?_, allOK_monoE h os (i + 1) (fun k o' hk => by rw [show i + 1 + k = i + (k + 1) by omega]; exact ho (k + 1) o' (by simpa using hk)) e.2.2⟩
    have hoi : l[i]? = some o := ho 0 o rfl
    have key : ∀ (xs : List Oper) (j : Nat), (∀ k x, xs[k]? = some x → l[j + k]? = some x) → pairsOK pr ms i o xs j = true → pairsOK pr' ms i o xs j = true := by
      intro xs
      induction xs with
      | nil => exact fun _ _ _ => rfl
      | cons x xs ih =>
        intro j hx e
        simp only [pairsOK, Bool.and_eq_true, Bool.or_eq_true] at e ⊢
        exact ⟨e.1.imp id fun e => e.imp id (h _ _ _ _ (hx 0 x rfl) hoi), ih (j + 1) (fun k x' hk => by rw [show j + 1 + k = j + (k + 1) by omega]; exact hx (k + 1) x' (by simpa using hk)) e.2⟩
    exact key l 0 (fun k x hk => by rw [Nat.zero_add]; exact hk) e.2.1
theorem drawD_of_S {A : List (Nat × Nat)} {env : Env} (hc : Cv env L) (hs : drawS cfg cur ops A = true) (ha : apartL L ops A) : drawD cfg cur ops env = true := by
  refine allOK_monoE (fun j x i o hx ho e => ?_) _ _ (fun k o hk => by rw [Nat.zero_add]; exact hk) hs
  rw [Bool.or_eq_true] at e ⊢
  refine e.imp id fun e => ?_
  rw [Bool.and_eq_true, Bool.and_eq_true] at e
  obtain ⟨e1, e2, e3⟩ := e
  unfold dynP
  rw [Bool.and_eq_true]
  refine ⟨e2, ?_⟩
  split at e3
  · rename_i t a t' b y hg1 hg2 h1 h2
    rw [Bool.and_eq_true] at e3
    simp only [hg1, hg2, h1, h2, Bool.and_eq_true]
    refine ⟨e3.1, e3.2, ?_⟩
    have key : ∀ A : List (Nat × Nat), (A.any fun q => Nat.beq q.1 j && Nat.beq q.2 i) = true → apartL L ops A → ptrsApart (env.at a) (env.at b) = true := by
      intro A
      induction A with
      | nil => intro h; simp at h
      | cons q A ih =>
        obtain ⟨j', i'⟩ := q
        intro h hA
        obtain ⟨hA1, hA2⟩ := hA
        rw [List.any_cons, Bool.or_eq_true] at h
        rcases h with h | h
        · rw [Bool.and_eq_true] at h
          have hj := Nat.eq_of_beq_eq_true h.1
          have hi := Nat.eq_of_beq_eq_true h.2
          dsimp only at hj hi
          subst hj hi
          obtain ⟨a', b', p, q, g1, g2, g3, g4, g5⟩ := hA1
          have hx' : ops[j']? = some x := by simpa using hx
          have ho' : ops[i']? = some o := by simpa using ho
          rw [hx'] at g1
          rw [ho'] at g2
          unfold addrT at g1 g2
          dsimp only at g1 g2
          rw [h1] at g1
          rw [h2] at g2
          cases g1
          cases g2
          rw [hc _ _ g3, hc _ _ g4]
          exact g5
        · exact ih h hA2
    exact key A e1 ha
  · cases e3
theorem Ps.regionD {id : Nat} {d : Bool} (h : Rs cfg cur ops ops.size sz ops.toList 0 L M (fun s => drawD cfg cur ops s.env = true ∧ R .normal s)) : Ps sz L M (fun s => Ev cfg cur (.region id ops d) s R) := by
  intro env H m h1 h2 h3
  refine Ev.regionD (h m env H (m + ops.size) (by simp) (Nat.le_refl _) h1 h2 ?_)
  rintro x (hx | hx)
  · exact h3 x (by omega)
  · exact h3 x (by omega)
theorem Rs.nilD {ops' : Array Oper} (A : List (Nat × Nat)) (hs : drawS cfg cur ops' A = true) (ha : (∀ H, CvH H M → apartL L ops' A)) (h : Ps sz L M Q) : Rs cfg cur ops n sz [] i L M (fun s => drawD cfg cur ops' s.env = true ∧ Q s) := by
  intro base env H m hn hm h1 h2 h3
  exact Ro.nil ⟨drawD_of_S h1 hs (ha H h2), h env H m h1 h2 fun id hid => h3 id (.inr hid)⟩
/-- Two blocks that are known are not one. -/
theorem CvH.ne {H : Heap} {M : Mem} (h : CvH H M) {j k g g' v v' : Nat} {o o' : HObj} (hj : M[j]? = some (g, v, o)) (hk : M[k]? = some (g', v', o')) (hne : j ≠ k) : Nat.beq g g' = false := by
  cases e : Nat.beq g g' with
  | false => rfl
  | true =>
    have e := Nat.eq_of_beq_eq_true e
    subst e
    have h1 : (M.map (·.1))[j]? = some g := by rw [List.getElem?_map, hj]; rfl
    have h2 : (M.map (·.1))[k]? = some g := by rw [List.getElem?_map, hk]; rfl
    have hl := (List.getElem?_eq_some_iff.1 h1).1
    exact absurd ((List.getElem?_inj hl h.1).1 (h1.trans h2.symm)) hne
theorem Rs.nil (h : Ps sz L M Q) : Rs cfg cur ops n sz [] i L M Q := by
  intro base env H m hn hm h1 h2 h3
  exact Ro.nil (h env H m h1 h2 fun id hid => h3 id (.inr hid))
theorem Ps.seq {a b : Code} (h : Ps sz L M (fun s => Ev cfg cur a s (Thn cfg cur b R))) : Ps sz L M (fun s => Ev cfg cur (.seq a b) s R) := h.mono fun _ h => Ev.seq h
theorem Ps.block {id : Nat} {b : Code} (h : Ps sz L M (fun s => Ev cfg cur b s (Blk id R))) : Ps sz L M (fun s => Ev cfg cur (.block id b) s R) := h.mono fun _ h => Ev.block h
theorem Ps.skip (h : Ps sz L M (R .normal)) : Ps sz L M (fun s => Ev cfg cur .skip s R) := h.mono fun _ h => Ev.skip h
theorem Ps.label {id : Nat} (h : Ps sz L M (R .normal)) : Ps sz L M (fun s => Ev cfg cur (.label id) s R) := h.mono fun _ h => Ev.label h
theorem Ps.exit {id : Nat} (h : Ps sz L M (R (.exit id))) : Ps sz L M (fun s => Ev cfg cur (.exit id) s R) := h.mono fun _ h => Ev.exit h
theorem Ps.ret (h : Ps sz L M (R .ret)) : Ps sz L M (fun s => Ev cfg cur .ret s R) := h.mono fun _ h => Ev.ret h
theorem Ps.cond {c : Operand} {a b : Code} {t : Bool} (hc : evl cfg L c = some (.lit (.bool t))) (h1 : t = true → Ps sz L M (fun s => Ev cfg cur a s R)) (h2 : t = false → Ps sz L M (fun s => Ev cfg cur b s R)) :
    Ps sz L M (fun s => Ev cfg cur (.cond c a b) s R) := by
  intro env H m e1 e2 e3
  refine Ev.cond (t := t) ?_ (fun h => h1 h env H m e1 e2 e3) (fun h => h2 h env H m e1 e2 e3)
  unfold condA
  rw [evl_ok e1 hc]
theorem Ps.thn {b : Code} (h : Ps sz L M (fun s => Ev cfg cur b s R)) : Ps sz L M (Thn cfg cur b R .normal) := h
theorem Ps.thn_exit {b : Code} {id : Nat} (h : Ps sz L M (R (.exit id))) : Ps sz L M (Thn cfg cur b R (.exit id)) := h
theorem Ps.thn_ret {b : Code} (h : Ps sz L M (R .ret)) : Ps sz L M (Thn cfg cur b R .ret) := h
theorem Ps.blk {id : Nat} (h : Ps sz L M (R .normal)) : Ps sz L M (Blk id R .normal) := h
theorem Ps.blk_ret {id : Nat} (h : Ps sz L M (R .ret)) : Ps sz L M (Blk id R .ret) := h
theorem Ps.blk_here {id : Nat} (h : Ps sz L M (R .normal)) : Ps sz L M (Blk id R (.exit id)) := h.mono fun s h => by simpa [Blk] using h
theorem Ps.blk_there {id id' : Nat} (hne : Nat.beq id' id = false) (h : Ps sz L M (R (.exit id'))) : Ps sz L M (Blk id R (.exit id')) := h.mono fun s h => by
  have : id' ≠ id := fun e => by rw [e, Nat.beq_refl] at hne; cases hne
  simpa [Blk, this] using h
/-- What is known may be less. -/
theorem Ps.sub {L' : Fr} {M' : Mem} (h : Ps sz L' M' Q) (hL : ∀ t p, lk L' t = some p → lk L t = some p) (hM : M'.Sublist M) : Ps sz L M Q :=
  fun env H m h1 h2 h3 => h env H m (fun t p e => h1 t p (hL t p e)) (h2.sublist hM) h3
/-- The temporaries in W are forgotten; of each other one its last value stays. -/
def dropW (W : List Nat) : Fr → Fr
  | [] => []
  | (t, p) :: r => match W.any (Nat.beq t) with | true => dropW W r | false => (t, p) :: dropW (t :: W) r
theorem lk_dropW (t : Nat) (p : PV) : ∀ (L : Fr) (W : List Nat), lk (dropW W L) t = some p → lk L t = some p ∧ W.any (Nat.beq t) = false
  | [], _, h => by cases h
  | (a, q) :: r, W, h => by
    unfold dropW at h
    unfold lk
    split at h
    · rename_i hw
      obtain ⟨h1, h2⟩ := lk_dropW t p r W h
      refine ⟨?_, h2⟩
      split
      · rename_i e
        rw [← Nat.eq_of_beq_eq_true e, hw] at h2
        cases h2
      · exact h1
    · rename_i hw
      unfold lk at h
      split at h
      · rename_i e
        cases h
        rw [← Nat.eq_of_beq_eq_true e]
        exact ⟨rfl, hw⟩
      · obtain ⟨h1, h2⟩ := lk_dropW t p r (a :: W) h
        rw [List.any_cons, Bool.or_eq_false_iff] at h2
        exact ⟨h1, h2.2⟩
/-- Reads as 'L' says, each one of the listed. -/
def HasL (L : Fr) : Fr → Prop
  | [] => True
  | (t, p) :: r => lk L t = some p ∧ HasL L r
theorem HasL.lk : ∀ {L L' : Fr}, HasL L L' → ∀ t p, RV.lk L' t = some p → RV.lk L t = some p
  | L, [], _, t, p, h => by cases h
  | L, (a, q) :: r, hh, t, p, h => by
    obtain ⟨h1, h2⟩ := hh
    unfold RV.lk at h
    split at h
    · rename_i e
      cases h
      rw [← Nat.eq_of_beq_eq_true e]
      exact h1
    · exact HasL.lk h2 t p h

theorem lk_app {t : Nat} {p : PV} : ∀ (A B : Fr), lk (A ++ B) t = some p → lk A t = some p ∨ lk B t = some p
  | [], B, h => .inr h
  | (a, q) :: A, B, h => by
    have h : (match Nat.beq a t with | true => some q | false => lk (A ++ B) t) = some p := h
    show (match Nat.beq a t with | true => some q | false => lk A t) = some p ∨ _
    cases e : Nat.beq a t with
    | true => rw [e] at h; exact .inl h
    | false => rw [e] at h; exact lk_app A B h

/-- The head of a loop is told for each 'j'. -/
structure Head (J : Type) where
  C : J → Prop
  E : J → Fr
  M : J → Mem
  μ : J → Nat
def RndJ {J : Type} (sz : Nat) (hd : Head J) (L0 : Fr) (j : J) (R : Ex → St → Prop) : Ex → St → Prop
  | .normal, s => ∃ j', hd.C j' ∧ hd.μ j' < hd.μ j ∧ s.sz = sz ∧ Cv s.env (hd.E j' ++ L0) ∧ CvH s.H (hd.M j') ∧ ∀ id, s.m ≤ id → s.H.get id = none
  | .exit id, s => R (.exit id) s
  | .ret, s => R .ret s
theorem Ps.loop {J : Type} (hd : Head J) (W : List Nat) (L0 : Fr) (j : J) {b : Code} (hL0 : dropW W L = L0) (hC : hd.C j) (hE : HasL L (hd.E j)) (hM : (hd.M j).Sublist M)
    (hr : ∀ j, hd.C j → Ps sz (hd.E j ++ L0) (hd.M j) (fun s => Ev cfg cur b s (RndJ sz hd L0 j R))) : Ps sz L M (fun s => Ev cfg cur (.loop b) s R) := by
  subst hL0
  intro env H m h1 h2 h3
  refine Ev.loop (fun n s => ∃ j, n = hd.μ j ∧ hd.C j ∧ s.sz = sz ∧ Cv s.env (hd.E j ++ dropW W L) ∧ CvH s.H (hd.M j) ∧ ∀ id, s.m ≤ id → s.H.get id = none) ?_ _ _ ⟨j, rfl, hC, rfl, ?_, h2.sublist hM, h3⟩
  · rintro n ⟨env, H, m, sz'⟩ ⟨j, rfl, hC, rfl, g1, g2, g3⟩
    refine (hr j hC env H m g1 g2 g3).mono ?_
    intro e s' h
    cases e with
    | normal =>
      obtain ⟨j', a1, a2, a3, a4, a5, a6⟩ := h
      exact ⟨_, a2, j', rfl, a1, a3, a4, a5, a6⟩
    | exit id => exact h
    | ret => exact h
  · intro t p hp
    rcases lk_app _ _ hp with h | h
    · exact h1 t p (HasL.lk hE t p h)
    · exact h1 t p (lk_dropW t p L W h).1
/-- A round's end. -/
theorem Ps.round {J : Type} {hd : Head J} {L0 : Fr} {j : J} (j' : J) (hC : hd.C j') (hμ : hd.μ j' < hd.μ j) (hE : HasL L (hd.E j')) (h0 : HasL L L0) (hM : (hd.M j').Sublist M) :
    Ps sz L M (RndJ sz hd L0 j R .normal) := by
  intro env H m h1 h2 h3
  refine ⟨j', hC, hμ, rfl, ?_, h2.sublist hM, h3⟩
  intro t p hp
  rcases lk_app _ _ hp with h | h
  · exact h1 t p (HasL.lk hE t p h)
  · exact h1 t p (HasL.lk h0 t p h)
theorem Ps.rnd_exit {J : Type} {hd : Head J} {L0 : Fr} {j : J} {id : Nat} (h : Ps sz L M (R (.exit id))) : Ps sz L M (RndJ sz hd L0 j R (.exit id)) := h
theorem Ps.rnd_ret {J : Type} {hd : Head J} {L0 : Fr} {j : J} (h : Ps sz L M (R .ret)) : Ps sz L M (RndJ sz hd L0 j R .ret) := h
end Go.Proofs.YtddaogebacigbaaGreatDoor.RV
end
section
set_option linter.unusedVariables false
namespace Go.Proofs.YtddaogebacigbaaGreatDoor.RV
variable {cfg : Cfg} {cur : FuncId} {sz : Nat} {L : Fr} {M : Mem} {ops : Array Oper} {n i : Nat} {os : List Oper} {Q : St → Prop} {R : Ex → St → Prop} {ty : TypeId} {ps : String} {af : Array Edge}

theorem Fre.next {H : Heap} {base i n m : Nat} (h : Fre H (base + i) (base + n) m) : Fre H (base + (i + 1)) (base + n) m := fun id hid => h id (by omega)
theorem Rs.pure {o : Oper} {d : Tmp} {p : PV} (hg : o.guard = none) (hd : o.dst = some d) (hlt : Nat.blt d sz = true) (hc : cls cfg cur o = .pure) (hcal : callee? o.op = none)
    (h : ∀ env, Cv env L → aopPure cfg env o = some p) (k : Rs cfg cur ops n sz os (i + 1) ((d, p) :: L) M Q) : Rs cfg cur ops n sz (o :: os) i L M Q := by
  intro base env H m hn hm h1 h2 h3
  simp only [List.length_cons] at hn
  refine Ro.step (s' := ⟨env.put d p, H, m, sz⟩) ?_ (k base _ H m (by omega) hm (h1.put d p) h2 h3.next)
  have hlt : d < sz := Nat.le_of_ble_eq_true hlt
  unfold stepA effA wantA
  rw [hg]
  dsimp only
  rw [hc]
  dsimp only
  unfold effPure
  rw [hcal]
  dsimp only
  rw [h env h1]
  dsimp only
  unfold setD
  rw [hd]
  dsimp only
  rw [if_pos hlt]
def yl (L : Fr) (ops : Array Oper) (j : Nat) : Option (Nat × Bool) :=
  match ops[j]? with
  | some o => match o.dst with
    | some d => match lk L d with
      | some (.lit (.bool b)) => some (d, b)
      | _ => none
    | none => none
  | none => none
theorem yl_ok {env : Env} (h : Cv env L) {j d : Nat} {b : Bool} (e : yl L ops j = some (d, b)) : yieldA env ops j = some b ∧ lk L d = some (.lit (.bool b)) := by
  unfold yl at e
  unfold yieldA
  split at e
  · rename_i o ho
    split at e
    · rename_i d' hd
      split at e
      · rename_i b' hl
        cases e
        rw [ho]
        dsimp only
        rw [hd]
        dsimp only
        rw [h _ _ hl]
        exact ⟨rfl, hl⟩
      · cases e
    · cases e
  · cases e
theorem strip_eff {X : Run} {base : Nat} {env : Env} {H : Heap} {m : Nat} {d : Option Tmp} {op : Op} {w : Nat × Bool} (h : wantA env ops ⟨d, op, ty, ps, af, some w⟩ = true) :
    effA cfg X cur ops base i ⟨d, op, ty, ps, af, some w⟩ env H m = effA cfg X cur ops base i ⟨d, op, ty, ps, af, none⟩ env H m := by
  unfold effA
  rw [h]
  rfl
theorem Cv.lit {env : Env} (h : Cv env L) {d : Nat} {p : PV} (e : lk L d = some p) : Cv env ((d, p) :: L) := by
  intro t q hq
  unfold lk at hq
  split at hq
  · rename_i hb
    cases hq
    rw [← Nat.eq_of_beq_eq_true hb]
    exact h _ _ e
  · exact h _ _ hq
theorem Rs.guardT {d : Option Tmp} {op : Op} {j t : Nat} {w : Bool} (hy : yl L ops j = some (t, w)) (k : Rs cfg cur ops n sz (⟨d, op, ty, ps, af, none⟩ :: os) i L M Q) : Rs cfg cur ops n sz (⟨d, op, ty, ps, af, some (j, w)⟩ :: os) i L M Q := by
  intro base env H m hn hm h1 h2 h3
  obtain ⟨kk, s', hr, hq⟩ := k base env H m hn hm h1 h2 h3
  refine ⟨kk, s', ?_, hq⟩
  have hw : wantA env ops ⟨d, op, ty, ps, af, some (j, w)⟩ = true := by
    unfold wantA
    dsimp only
    rw [(yl_ok h1 hy).1]
    simp
  unfold runOps at hr ⊢
  unfold stepA at hr ⊢
  rw [strip_eff hw]
  exact hr
def putO (d : Option Tmp) (p : PV) (L : Fr) : Fr := match d with | some t => (t, p) :: L | none => L
theorem Rs.guardF {d : Option Tmp} {op : Op} {j t : Nat} {w b : Bool} (hy : yl L ops j = some (t, b)) (hb : (b == w) = false) (hlt : (match d with | some t => Nat.blt t sz | none => true) = true) (k : Rs cfg cur ops n sz os (i + 1) (putO d undefP L) M Q) : Rs cfg cur ops n sz (⟨d, op, ty, ps, af, some (j, w)⟩ :: os) i L M Q := by
  intro base env H m hn hm h1 h2 h3
  simp only [List.length_cons] at hn
  have hw : wantA env ops ⟨d, op, ty, ps, af, some (j, w)⟩ = false := by
    unfold wantA
    dsimp only
    rw [(yl_ok h1 hy).1]
    exact hb
  cases d with
  | none =>
    refine Ro.step (s' := ⟨env, H, m, sz⟩) ?_ (k base _ H m (by omega) hm h1 h2 h3.next)
    unfold stepA effA
    rw [hw]
    rfl
  | some d =>
    refine Ro.step (s' := ⟨env.put d undefP, H, m, sz⟩) ?_ (k base _ H m (by omega) hm (h1.put d undefP) h2 h3.next)
    have hlt : d < sz := Nat.le_of_ble_eq_true hlt
    unfold stepA effA
    rw [hw]
    dsimp only
    unfold setD
    dsimp only
    rw [if_pos hlt]
theorem Rs.guardF1 {d : Tmp} {op : Op} {j t : Nat} {w b : Bool} (hy : yl L ops j = some (t, b)) (hb : (b == w) = false) (hlt : Nat.blt d sz = true) (k : Rs cfg cur ops n sz os (i + 1) ((d, undefP) :: L) M Q) : Rs cfg cur ops n sz (⟨some d, op, ty, ps, af, some (j, w)⟩ :: os) i L M Q := Rs.guardF hy hb hlt k
theorem Rs.guardF0 {op : Op} {j t : Nat} {w b : Bool} (hy : yl L ops j = some (t, b)) (hb : (b == w) = false) (k : Rs cfg cur ops n sz os (i + 1) L M Q) : Rs cfg cur ops n sz (⟨none, op, ty, ps, af, some (j, w)⟩ :: os) i L M Q := Rs.guardF hy hb rfl k
/-- A guard that is not settled: both ways. -/
theorem Rs.guard {d : Option Tmp} {op : Op} {j t : Nat} {w b : Bool} (hy : yl L ops j = some (t, b)) (hlt : (match d with | some t => Nat.blt t sz | none => true) = true)
    (k1 : b = w → Rs cfg cur ops n sz (⟨d, op, ty, ps, af, none⟩ :: os) i ((t, .lit (.bool w)) :: L) M Q)
    (k2 : b = !w → Rs cfg cur ops n sz os (i + 1) (putO d undefP ((t, .lit (.bool !w)) :: L)) M Q) : Rs cfg cur ops n sz (⟨d, op, ty, ps, af, some (j, w)⟩ :: os) i L M Q := by
  intro base env H m hn hm h1 h2 h3
  have hl := (yl_ok h1 hy).2
  have hup : ∀ b', b = b' → Cv env ((t, .lit (.bool b')) :: L) ∧ yl ((t, .lit (.bool b')) :: L) ops j = some (t, b') := by
    rintro b' rfl
    refine ⟨h1.lit hl, ?_⟩
    have e := hy
    unfold yl at e ⊢
    split at e
    · rename_i o ho
      split at e
      · rename_i d' hd
        split at e
        · cases e
          unfold lk
          rw [Nat.beq_refl]
        · cases e
      · cases e
    · cases e
  by_cases hb : b = w
  · obtain ⟨c1, c2⟩ := hup w hb
    exact Rs.guardT (L := (t, .lit (.bool w)) :: L) c2 (k1 hb) base env H m hn hm c1 h2 h3
  · have hb : b = !w := by cases b <;> cases w <;> simp_all
    obtain ⟨c1, c2⟩ := hup (!w) hb
    exact Rs.guardF (L := (t, .lit (.bool !w)) :: L) c2 (by cases w <;> rfl) hlt (k2 hb) base env H m hn hm c1 h2 h3
theorem Rs.guard1 {d : Tmp} {op : Op} {j t : Nat} {w w' b : Bool} (hy : yl L ops j = some (t, b)) (hlt : Nat.blt d sz = true) (hw : (!w) = w')
    (k1 : b = w → Rs cfg cur ops n sz (⟨some d, op, ty, ps, af, none⟩ :: os) i ((t, .lit (.bool w)) :: L) M Q)
    (k2 : b = w' → Rs cfg cur ops n sz os (i + 1) ((d, undefP) :: (t, .lit (.bool w')) :: L) M Q) : Rs cfg cur ops n sz (⟨some d, op, ty, ps, af, some (j, w)⟩ :: os) i L M Q := by
  subst hw
  exact Rs.guard hy hlt k1 k2
theorem Rs.guard0 {op : Op} {j t : Nat} {w w' b : Bool} (hy : yl L ops j = some (t, b)) (hw : (!w) = w')
    (k1 : b = w → Rs cfg cur ops n sz (⟨none, op, ty, ps, af, none⟩ :: os) i ((t, .lit (.bool w)) :: L) M Q)
    (k2 : b = w' → Rs cfg cur ops n sz os (i + 1) ((t, .lit (.bool w')) :: L) M Q) : Rs cfg cur ops n sz (⟨none, op, ty, ps, af, some (j, w)⟩ :: os) i L M Q := by
  subst hw
  exact Rs.guard hy rfl k1 k2
/-- What is bound may be told otherwise. -/
theorem Rs.tell {t : Nat} {p : PV} (e : lk L t = some p) (k : Rs cfg cur ops n sz os i ((t, p) :: L) M Q) : Rs cfg cur ops n sz os i L M Q :=
  fun base env H m hn hm h1 h2 h3 => k base env H m hn hm (h1.lit e) h2 h3
theorem Ps.tell {t : Nat} {p : PV} (e : lk L t = some p) (k : Ps sz ((t, p) :: L) M Q) : Ps sz L M Q :=
  fun env H m h1 h2 h3 => k env H m (h1.lit e) h2 h3
theorem Ps.if {t : Nat} {a b : Code} {c : Bool} (hc : lk L t = some (.lit (.bool c))) (h1 : c = true → Ps sz ((t, .lit (.bool true)) :: L) M (fun s => Ev cfg cur a s R)) (h2 : c = false → Ps sz ((t, .lit (.bool false)) :: L) M (fun s => Ev cfg cur b s R)) :
    Ps sz L M (fun s => Ev cfg cur (.cond (.tmp t) a b) s R) :=
  Ps.cond (t := c) hc (fun h => Ps.tell (by rw [hc, h]) (h1 h)) (fun h => Ps.tell (by rw [hc, h]) (h2 h))
theorem Ps.ifT {t : Nat} {a b : Code} (hc : lk L t = some (.lit (.bool true))) (h1 : Ps sz L M (fun s => Ev cfg cur a s R)) : Ps sz L M (fun s => Ev cfg cur (.cond (.tmp t) a b) s R) :=
  Ps.cond (t := true) hc (fun _ => h1) (fun h => by cases h)
theorem Ps.ifF {t : Nat} {a b : Code} (hc : lk L t = some (.lit (.bool false))) (h1 : Ps sz L M (fun s => Ev cfg cur b s R)) : Ps sz L M (fun s => Ev cfg cur (.cond (.tmp t) a b) s R) :=
  Ps.cond (t := false) hc (fun h => by cases h) (fun _ => h1)

/-! ### Operations -/
theorem Rs.move {d : Tmp} {x : Operand} {p : PV} (hlt : Nat.blt d sz = true) (hx : evl cfg L x = some p) (k : Rs cfg cur ops n sz os (i + 1) ((d, p) :: L) M Q) :
    Rs cfg cur ops n sz (⟨some d, .move x, ty, ps, af, none⟩ :: os) i L M Q := Rs.pure rfl rfl hlt rfl rfl (fun env h => evl_ok h hx) k
theorem Rs.assign {d : Tmp} {x : Operand} {p : PV} (hlt : Nat.blt d sz = true) (hx : evl cfg L x = some p) (k : Rs cfg cur ops n sz os (i + 1) ((d, p) :: L) M Q) :
    Rs cfg cur ops n sz (⟨some d, .assign x, ty, ps, af, none⟩ :: os) i L M Q := Rs.pure rfl rfl hlt rfl rfl (fun env h => evl_ok h hx) k
theorem lit2 {env : Env} {o : Oper} {x y : Operand} {p q : PV} {a b v : Value} (hs : isSel o.op = false) (ho : o.op.operands.toList = [x, y]) (hx : evO cfg env x = some p) (hp : toVal p = some a) (hy : evO cfg env y = some q) (hq : toVal q = some b)
    (h : ∀ ρ : Operand → Value, ρ x = a → ρ y = b → pureRun cfg.P (execOp ρ o) = some (.value v)) : litRun cfg env o = some (ofVal v) := by
  unfold litRun
  rw [hs, ho]
  dsimp only
  have h1 : litOk cfg env [x, y] = true := by simp only [litOk, hx, hp, hy, hq]
  rw [h1]
  dsimp only
  rw [h (litOf cfg env) (by unfold litOf; rw [hx]; dsimp only; rw [hp]) (by unfold litOf; rw [hy]; dsimp only; rw [hq])]
theorem lit1 {env : Env} {o : Oper} {x : Operand} {p : PV} {a v : Value} (hs : isSel o.op = false) (ho : o.op.operands.toList = [x]) (hx : evO cfg env x = some p) (hp : toVal p = some a)
    (h : ∀ ρ : Operand → Value, ρ x = a → pureRun cfg.P (execOp ρ o) = some (.value v)) : litRun cfg env o = some (ofVal v) := by
  unfold litRun
  rw [hs, ho]
  dsimp only
  have h1 : litOk cfg env [x] = true := by simp only [litOk, hx, hp]
  rw [h1]
  dsimp only
  rw [h (litOf cfg env) (by unfold litOf; rw [hx]; dsimp only; rw [hp])]
/-- An operation on two literals. -/
theorem Rs.bin {d : Tmp} {op : BinOp} {t t2 : TypeId} {x y : Operand} {p q r : PV} {a b v : Value} (hlt : Nat.blt d sz = true) (hx : evl cfg L x = some p) (hp : toVal p = some a) (hy : evl cfg L y = some q) (hq : toVal q = some b)
    (h : pureRun cfg.P (do eqGuard op t x y a b; binOp op t a b) = some v) (hr : ofVal v = r) (k : Rs cfg cur ops n sz os (i + 1) ((d, r) :: L) M Q) : Rs cfg cur ops n sz (⟨some d, .binOp op t x y t2, ty, ps, af, none⟩ :: os) i L M Q := by
  refine Rs.pure rfl rfl hlt rfl rfl (fun env hE => ?_) k
  unfold aopPure
  dsimp only
  rw [lit2 (v := v) rfl rfl (evl_ok hE hx) hp (evl_ok hE hy) hq ?_]
  · dsimp only; rw [hr]
  · rintro ρ rfl rfl
    show pureRun cfg.P ((eqGuard op t x y (ρ x) (ρ y) >>= fun _ => binOp op t (ρ x) (ρ y)) >>= fun r => Pure.pure (Next.value r)) = _
    rw [pureRun_bind]
    have h' : pureRun cfg.P (eqGuard op t x y (ρ x) (ρ y) >>= fun _ => binOp op t (ρ x) (ρ y)) = some v := h
    rw [h']
    rfl
/-- Whole numbers: sums, differences, products. -/
theorem Rs.arith {d : Tmp} {op : BinOp} {t t2 : TypeId} {x y : Operand} {ik : IntKind} {a b c : Int} (hlt : Nat.blt d sz = true) (hx : evl cfg L x = some (.lit (.int ik a))) (hy : evl cfg L y = some (.lit (.int ik b)))
    (h : (match op with | .add => ik.wrap (a + b) = c | .sub => ik.wrap (a - b) = c | .mul => ik.wrap (a * b) = c | _ => False)) (k : Rs cfg cur ops n sz os (i + 1) ((d, .lit (.int ik c)) :: L) M Q) : Rs cfg cur ops n sz (⟨some d, .binOp op t x y t2, ty, ps, af, none⟩ :: os) i L M Q := by
  refine Rs.bin (v := .int ik c) hlt hx rfl hy rfl ?_ rfl k
  cases op <;> simp only at h <;> first
    | exact h.elim
    | (subst h; cases ik <;> rfl)
theorem Rs.un {d : Tmp} {op : UnOp} {t : TypeId} {x : Operand} {p r : PV} {a v : Value} (hlt : Nat.blt d sz = true) (hx : evl cfg L x = some p) (hp : toVal p = some a)
    (h : pureRun cfg.P (Op.unary op a) = some v) (hr : ofVal v = r) (k : Rs cfg cur ops n sz os (i + 1) ((d, r) :: L) M Q) : Rs cfg cur ops n sz (⟨some d, .unOp op t x, ty, ps, af, none⟩ :: os) i L M Q := by
  refine Rs.pure rfl rfl hlt rfl rfl (fun env hE => ?_) k
  unfold aopPure
  dsimp only
  rw [lit1 (v := v) rfl rfl (evl_ok hE hx) hp ?_, hr]
  rintro ρ rfl
  show pureRun cfg.P (Op.unary op (ρ x) >>= fun r => Pure.pure (Next.value r)) = _
  rw [pureRun_bind, h]
  rfl
/-- A conversion that is none of or to a slice. -/
theorem Rs.conv {d : Tmp} {s t : TypeId} {x : Operand} {p r : PV} {a v : Value} (hlt : Nat.blt d sz = true) (h1 : isSliceT cfg.P s = false) (h2 : isSliceT cfg.P t = false) (hx : evl cfg L x = some p) (hp : toVal p = some a)
    (h : pureRun cfg.P (convert s t a) = some v) (hr : ofVal v = r) (k : Rs cfg cur ops n sz os (i + 1) ((d, r) :: L) M Q) : Rs cfg cur ops n sz (⟨some d, .convert s t x, ty, ps, af, none⟩ :: os) i L M Q := by
  refine Rs.pure rfl rfl hlt ?_ rfl (fun env hE => ?_) k
  · simp [cls, h1, h2]
  unfold aopPure
  dsimp only
  rw [h2]
  rw [lit1 (v := v) rfl rfl (evl_ok hE hx) hp ?_, hr]
  · rfl
  rintro ρ rfl
  show pureRun cfg.P (convert s t (ρ x) >>= fun r => Pure.pure (Next.value r)) = _
  rw [pureRun_bind, h]
  rfl
theorem Rs.pickT {d : Tmp} {c a b : Operand} {p q : PV} (hlt : Nat.blt d sz = true) (hc : evl cfg L c = some (.lit (.bool true))) (ha : evl cfg L a = some p) (hb : evl cfg L b = some q) (k : Rs cfg cur ops n sz os (i + 1) ((d, p) :: L) M Q) :
    Rs cfg cur ops n sz (⟨some d, .pick c a b, ty, ps, af, none⟩ :: os) i L M Q :=
  Rs.pure rfl rfl hlt rfl rfl (fun env hE => by unfold aopPure; dsimp only; rw [evl_ok hE hc, evl_ok hE ha, evl_ok hE hb]) k
theorem Rs.pickF {d : Tmp} {c a b : Operand} {p q : PV} (hlt : Nat.blt d sz = true) (hc : evl cfg L c = some (.lit (.bool false))) (ha : evl cfg L a = some p) (hb : evl cfg L b = some q) (k : Rs cfg cur ops n sz os (i + 1) ((d, q) :: L) M Q) :
    Rs cfg cur ops n sz (⟨some d, .pick c a b, ty, ps, af, none⟩ :: os) i L M Q :=
  Rs.pure rfl rfl hlt rfl rfl (fun env hE => by unfold aopPure; dsimp only; rw [evl_ok hE hc, evl_ok hE ha, evl_ok hE hb]) k
theorem Rs.box {d : Tmp} {t : TypeId} {x : Operand} {p : PV} {l : List PV} (hlt : Nat.blt d sz = true) (ho : cfg.own cur d = false) (hx : evl cfg L x = some p) (hd : deepB p = true) (hl : p.cells = l) (k : Rs cfg cur ops n sz os (i + 1) ((d, .dptr l 0) :: L) M Q) :
    Rs cfg cur ops n sz (⟨some d, .box t x, ty, ps, af, none⟩ :: os) i L M Q := by
  refine Rs.pure rfl rfl hlt ?_ rfl (fun env hE => ?_) k
  · simp [cls, ownDst, ho]
  unfold aopPure
  dsimp only
  rw [evl_ok hE hx]
  dsimp only
  rw [hd, if_pos rfl, hl]
theorem Rs.extract {d : Tmp} {x : Operand} {j : Nat} {l : List PV} {p : PV} (hlt : Nat.blt d sz = true) (hx : evl cfg L x = some (.tup l)) (hl : l[j]? = some p) (k : Rs cfg cur ops n sz os (i + 1) ((d, p) :: L) M Q) :
    Rs cfg cur ops n sz (⟨some d, .extract x j, ty, ps, af, none⟩ :: os) i L M Q :=
  Rs.pure rfl rfl hlt rfl rfl (fun env hE => by unfold aopPure; dsimp only; rw [evl_ok hE hx]; exact hl) k
def fieldOf (P : Program) (t : TypeId) (j : Nat) : Option (Nat × TypeId × Bool) :=
  match P.underlying t with
  | some (.struct fields) => match fields[j]? with
    | some f => match szO P f.type with
      | some 0 => some (f.offset, f.type, false)
      | some _ => some (f.offset, f.type, true)
      | none => none
    | none => none
  | _ => none
theorem fieldOf_ok {P : Program} {t : TypeId} {j o : Nat} {u : TypeId} {b : Bool} (h : fieldOf P t j = some (o, u, b)) : ∃ fields f m, P.underlying t = some (.struct fields) ∧ fields[j]? = some f ∧ f.offset = o ∧ f.type = u ∧ szO P f.type = some m ∧ (b = true → m ≠ 0) := by
  unfold fieldOf at h
  split at h
  · rename_i fields hu
    split at h
    · rename_i f hf
      split at h <;> cases h
      · rename_i h0; exact ⟨_, f, 0, hu, hf, rfl, rfl, h0, fun e => by cases e⟩
      · rename_i m hm hs; exact ⟨_, f, m, hu, hf, rfl, rfl, hs, fun _ e => hm e⟩
    · cases h
  · cases h
theorem Rs.fieldAddrD {d : Tmp} {t : TypeId} {x : Operand} {j o off off' : Nat} {u : TypeId} {l : List PV} (hlt : Nat.blt d sz = true) (hf : fieldOf cfg.P t j = some (o, u, true)) (hx : evl cfg L x = some (.dptr l off)) (ho : Nat.add off o = off') (k : Rs cfg cur ops n sz os (i + 1) ((d, .dptr l off') :: L) M Q) :
    Rs cfg cur ops n sz (⟨some d, .fieldAddr t x j, ty, ps, af, none⟩ :: os) i L M Q := by
  refine Rs.pure rfl rfl hlt rfl rfl (fun env hE => ?_) k
  obtain ⟨fields, f, m, h1, h2, rfl, _, h4, h5⟩ := fieldOf_ok hf
  have h5 := h5 rfl
  unfold aopPure fieldAddrA
  dsimp only
  rw [h1]; dsimp only; rw [h2]; dsimp only; rw [h4]
  cases m with
  | zero => exact absurd rfl h5
  | succ m => rw [evl_ok hE hx]; dsimp only; rw [← ho]; rfl
theorem Rs.fieldAddrP {d : Tmp} {t : TypeId} {x : Operand} {j o off off' id v ix : Nat} {u : TypeId} (hlt : Nat.blt d sz = true) (hf : fieldOf cfg.P t j = some (o, u, true)) (hx : evl cfg L x = some (.ptr id v ix off)) (ho : Nat.add off o = off') (k : Rs cfg cur ops n sz os (i + 1) ((d, .ptr id v ix off') :: L) M Q) :
    Rs cfg cur ops n sz (⟨some d, .fieldAddr t x j, ty, ps, af, none⟩ :: os) i L M Q := by
  refine Rs.pure rfl rfl hlt rfl rfl (fun env hE => ?_) k
  obtain ⟨fields, f, m, h1, h2, rfl, _, h4, h5⟩ := fieldOf_ok hf
  have h5 := h5 rfl
  unfold aopPure fieldAddrA
  dsimp only
  rw [h1]; dsimp only; rw [h2]; dsimp only; rw [h4]
  cases m with
  | zero => exact absurd rfl h5
  | succ m => rw [evl_ok hE hx]; dsimp only; rw [← ho]; rfl
theorem Rs.field {d : Tmp} {t : TypeId} {x : Operand} {j o : Nat} {u : TypeId} {b : Bool} {l : List PV} {p : PV} (hlt : Nat.blt d sz = true) (hf : fieldOf cfg.P t j = some (o, u, b)) (hx : evl cfg L x = some (.agg l)) (hp : partO cfg.P u l o = some p) (k : Rs cfg cur ops n sz os (i + 1) ((d, p) :: L) M Q) :
    Rs cfg cur ops n sz (⟨some d, .field t x j, ty, ps, af, none⟩ :: os) i L M Q := by
  refine Rs.pure rfl rfl hlt rfl rfl (fun env hE => ?_) k
  obtain ⟨fields, f, m, h1, h2, rfl, rfl, h4, h5⟩ := fieldOf_ok hf
  unfold aopPure fieldA
  dsimp only
  rw [h1, evl_ok hE hx]; dsimp only; rw [h2]; dsimp only; rw [hp]
/-- A load from memory that stays. -/
theorem Rs.loadD {d : Tmp} {t : TypeId} {x : Operand} {off : Nat} {l : List PV} {p : PV} (hlt : Nat.blt d sz = true) (hc : cls cfg cur ⟨some d, .load t x, ty, ps, af, none⟩ = .pure) (hx : evl cfg L x = some (.dptr l off)) (hp : partO cfg.P t l off = some p) (k : Rs cfg cur ops n sz os (i + 1) ((d, p) :: L) M Q) :
    Rs cfg cur ops n sz (⟨some d, .load t x, ty, ps, af, none⟩ :: os) i L M Q := by
  refine Rs.pure rfl rfl hlt hc rfl (fun env hE => ?_) k
  unfold aopPure
  dsimp only
  rw [evl_ok hE hx]
  exact hp
theorem Rs.nilCheck {d : Tmp} {x : Operand} {p : PV} (hlt : Nat.blt d sz = true) (hx : evl cfg L x = some p) (hp : (match p with | .ptr .. | .dptr .. | .clo .. => true | _ => false) = true) (k : Rs cfg cur ops n sz os (i + 1) ((d, p) :: L) M Q) :
    Rs cfg cur ops n sz (⟨some d, .nilCheck x, ty, ps, af, none⟩ :: os) i L M Q := by
  refine Rs.pure rfl rfl hlt rfl rfl (fun env hE => ?_) k
  unfold aopPure
  dsimp only
  rw [evl_ok hE hx]
  split at hp <;> first | rfl | cases hp
theorem Rs.makeFunc {d : Tmp} {f : FuncId} {fs cs : Array Operand} {a l : List PV} (hlt : Nat.blt d sz = true) (ha : evls cfg L fs.toList = some a) (hl : evls cfg L cs.toList = some l) (k : Rs cfg cur ops n sz os (i + 1) ((d, .clo f a l) :: L) M Q) :
    Rs cfg cur ops n sz (⟨some d, .makeFunc (.func f) fs cs, ty, ps, af, none⟩ :: os) i L M Q :=
  Rs.pure rfl rfl hlt rfl rfl (fun env hE => by unfold aopPure; dsimp only; rw [evls_ok hE ha, evls_ok hE hl]) k
/-- The length of a slice. -/
theorem Rs.lenD {d : Tmp} {x : Operand} {t : TypeId} {s : Nat} {l : List PV} {c : Option Nat} (hlt : Nat.blt d sz = true) (ht : isSliceT cfg.P t = true) (hm : isMapT cfg.P t = false) (hx : evl cfg L x = some (.dsl s l c)) (k : Rs cfg cur ops n sz os (i + 1) ((d, .lit (.int .i64 l.length)) :: L) M Q) :
    Rs cfg cur ops n sz (⟨some d, .call ⟨.builtin .len, #[x], #[t]⟩, ty, ps, af, none⟩ :: os) i L M Q := by
  refine Rs.pure rfl rfl hlt ?_ rfl (fun env hE => ?_) k
  · simp [cls, hm]
  · unfold aopPure
    dsimp only
    rw [evl_ok hE hx]
    show (if isSliceT cfg.P t then _ else _) = _
    rw [ht, if_pos rfl]
theorem Rs.lenO {d : Tmp} {x : Operand} {t : TypeId} {id v s off len : Nat} {c : Option Nat} (hlt : Nat.blt d sz = true) (ht : isSliceT cfg.P t = true) (hm : isMapT cfg.P t = false) (hx : evl cfg L x = some (.own id v s off len c)) (k : Rs cfg cur ops n sz os (i + 1) ((d, .lit (.int .i64 len)) :: L) M Q) :
    Rs cfg cur ops n sz (⟨some d, .call ⟨.builtin .len, #[x], #[t]⟩, ty, ps, af, none⟩ :: os) i L M Q := by
  refine Rs.pure rfl rfl hlt ?_ rfl (fun env hE => ?_) k
  · simp [cls, hm]
  · unfold aopPure
    dsimp only
    rw [evl_ok hE hx]
    show (if isSliceT cfg.P t then _ else _) = _
    rw [ht, if_pos rfl]
/-- The length of a literal: a nil slice, a string. -/
theorem Rs.lenL {d : Tmp} {x : Operand} {t : TypeId} {a v : Value} {r : PV} (hlt : Nat.blt d sz = true) (hm : isMapT cfg.P t = false) (hx : evl cfg L x = some (.lit a)) (h : pureRun cfg.P (Builtin.len_ #[t] ty #[a]) = some v) (hr : ofVal v = r) (k : Rs cfg cur ops n sz os (i + 1) ((d, r) :: L) M Q) :
    Rs cfg cur ops n sz (⟨some d, .call ⟨.builtin .len, #[x], #[t]⟩, ty, ps, af, none⟩ :: os) i L M Q := by
  refine Rs.pure rfl rfl hlt ?_ rfl (fun env hE => ?_) k
  · simp [cls, hm]
  · unfold aopPure
    dsimp only
    rw [evl_ok hE hx]
    dsimp only
    refine (lit1 (v := v) rfl rfl (evl_ok hE hx) rfl ?_).trans (by rw [hr])
    rintro ρ rfl
    simp only [execOp, resolve, invoke, builtin, bind_pure_comp, List.map_toArray, List.map_cons, List.map_nil, pure_bind]
    show pureRun cfg.P (Builtin.len_ #[t] ty #[ρ x] >>= fun r => Pure.pure (Next.value r)) = _
    rw [pureRun_bind, h]
    rfl
/-- The address of an element. -/
theorem Rs.indexD {d : Tmp} {t e : TypeId} {x y : Operand} {s j : Nat} {jk : IntKind} {ji : Int} {l lc : List PV} {c : Option Nat} {p : PV} (hlt : Nat.blt d sz = true) (hu : cfg.P.underlying t = some (.slice e)) (hs : szO cfg.P e = some s) (hx : evl cfg L x = some (.dsl s l c)) (hy : evl cfg L y = some (.lit (.int jk ji))) (hj : ji = (j : Int)) (hl : l[j]? = some p) (hlc : p.cells = lc) (k : Rs cfg cur ops n sz os (i + 1) ((d, .dptr lc 0) :: L) M Q) :
    Rs cfg cur ops n sz (⟨some d, .indexAddr t x y, ty, ps, af, none⟩ :: os) i L M Q := by
  refine Rs.pure rfl rfl hlt rfl rfl (fun env hE => ?_) k
  have hj : ji = Int.ofNat j := hj
  subst hj
  unfold aopPure indexAddrA
  dsimp only
  rw [evl_ok hE hy]
  dsimp only [natLit]
  rw [hu]
  dsimp only
  rw [hs]
  dsimp only
  rw [evl_ok hE hx]
  dsimp only
  rw [if_pos rfl, hl]
  dsimp only
  rw [hlc]
theorem Rs.indexO {d : Tmp} {t e : TypeId} {x y : Operand} {id v s off len j : Nat} {jk : IntKind} {ji : Int} {c : Option Nat} (hlt : Nat.blt d sz = true) (hu : cfg.P.underlying t = some (.slice e)) (hs : szO cfg.P e = some s) (hx : evl cfg L x = some (.own id v s off len c)) (hy : evl cfg L y = some (.lit (.int jk ji))) (hj : ji = (j : Int)) (hl : j < len) (k : Rs cfg cur ops n sz os (i + 1) ((d, .ptr id v (off + j) 0) :: L) M Q) :
    Rs cfg cur ops n sz (⟨some d, .indexAddr t x y, ty, ps, af, none⟩ :: os) i L M Q := by
  refine Rs.pure rfl rfl hlt rfl rfl (fun env hE => ?_) k
  have hj : ji = Int.ofNat j := hj
  subst hj
  unfold aopPure indexAddrA
  dsimp only
  rw [evl_ok hE hy]
  dsimp only [natLit]
  rw [hu]
  dsimp only
  rw [hs]
  dsimp only
  rw [evl_ok hE hx]
  dsimp only
  rw [if_pos ⟨hl, rfl⟩]
end Go.Proofs.YtddaogebacigbaaGreatDoor.RV
end
