/- A part of the evaluator over abstract values, and that it is right (RvV). Conditions: none. -/
import Derived.Test.YtddaogebacigbaaGreatDoorRvU
set_option linter.constructorNameAsVariable false
namespace Go.Proofs.YtddaogebacigbaaGreatDoor.RV

section
variable {cfg : Cfg} {X : Run} {cur : FuncId} {ops : Array Oper} {base : Nat}

theorem step_iff {i : Nat} {o : Oper} {s s' : St} : stepA cfg X cur ops base i o s = some s' ↔ ∃ p H m, effA cfg X cur ops base i o s.env s.H s.m = some (p, H, m) ∧ (∀ t, o.dst = some t → t < s.sz) ∧ s' = ⟨putD s.env o.dst p, H, m, s.sz⟩ := by
  unfold stepA
  constructor
  · intro h
    split at h
    · rename_i p H m heff
      refine ⟨p, H, m, heff, ?_⟩
      unfold setD at h
      cases hd : o.dst with
      | none => rw [hd] at h; cases h; exact ⟨fun t h => (by cases h), rfl⟩
      | some d =>
        rw [hd] at h
        simp only at h
        split at h <;> cases h
        rename_i hlt
        exact ⟨fun t h => by cases h; exact hlt, rfl⟩
    · cases h
  · rintro ⟨p, H, m, heff, hlt, rfl⟩
    rw [heff]
    simp only
    unfold setD
    cases hd : o.dst with
    | none => rfl
    | some d => simp only; rw [if_pos (hlt d hd)]; rfl

theorem putD_comm {env : Env} {d e : Option Tmp} {p q : PV} (h : ∀ t, d = some t → e ≠ some t) : putD (putD env d p) e q = putD (putD env e q) d p := by
  cases d with
  | none => rfl
  | some t =>
    cases e with
    | none => rfl
    | some u =>
      simp only [putD]
      exact put_comm env (fun he => h t rfl (by rw [he]))

/-- What each kind of operation is. -/
theorem eff_pure {i : Nat} {o : Oper} (h : kin cfg cur o = .pure ∨ True ∧ False) (env : Env) : ∃ r : Option PV, ∀ H m, effA cfg X cur ops base i o env H m = r.map fun p => (p, H, m) := by
  have h : kin cfg cur o = .pure := h.elim id fun h => h.2.elim
  have hc : cls cfg cur o = .pure := by
    unfold kin at h
    split at h <;> first | assumption | (exfalso; revert h; first | decide | (split <;> decide))
  cases hw : wantA env ops o with
  | false => exact ⟨some undefP, fun H m => by unfold effA; rw [hw]; rfl⟩
  | true =>
    refine ⟨effPure cfg X env o, fun H m => ?_⟩
    unfold effA
    rw [hw, hc]
    simp only
    cases effPure cfg X env o <;> rfl

theorem cls_of_read {o : Oper} (h : kin cfg cur o = .read ∨ kin cfg cur o = .call) : cls cfg cur o = .read := by
  unfold kin at h
  cases hc : cls cfg cur o <;> rw [hc] at h <;> simp at h ⊢

theorem eff_read {i : Nat} {o : Oper} (h : kin cfg cur o = .read ∨ kin cfg cur o = .call) (env : Env) : ∃ f : Heap → Option PV, (∀ H m, effA cfg X cur ops base i o env H m = (f H).map fun p => (p, H, m)) ∧
    (kin cfg cur o = .read → ∀ H k e p, H.get k = none → f H = some p → f (H.put k e) = some p) := by
  have hc := cls_of_read h
  cases hw : wantA env ops o with
  | false => exact ⟨fun _ => some undefP, fun H m => by unfold effA; rw [hw]; rfl, fun _ H k e p _ h => h⟩
  | true =>
    refine ⟨fun H => effRead cfg X env H o, fun H m => ?_, fun hk H k e p hn hp => ?_⟩
    · unfold effA
      rw [hw, hc]
      simp only
      cases effRead cfg X env H o <;> rfl
    · unfold effRead at hp ⊢
      have hcal : callee? o.op = none := by
        unfold kin at hk
        rw [hc] at hk
        simp only at hk
        split at hk
        · cases hk
        · assumption
      rw [hcal] at hp ⊢
      exact aopRead_put hn hp

theorem eff_new {i : Nat} {o : Oper} (h : kin cfg cur o = .new) (env : Env) : (∃ p, ∀ H m, effA cfg X cur ops base i o env H m = some (p, H, m)) ∨
    ∃ r : Option (PV × HObj), ∀ H m, effA cfg X cur ops base i o env H m = match r with | some (p, ob) => (match H.get (base + i) with | none => some (p, H.put (base + i) (0, ob), m) | some _ => none) | none => none := by
  have hc : cls cfg cur o = .new := by
    unfold kin at h
    cases hc : cls cfg cur o <;> rw [hc] at h <;> simp at h ⊢
    split at h <;> cases h
  cases hw : wantA env ops o with
  | false => exact .inl ⟨undefP, fun H m => by unfold effA; rw [hw]⟩
  | true =>
    refine .inr ⟨newOf cfg X env o (base + i), fun H m => ?_⟩
    unfold effA
    rw [hw, hc]
    simp only
    cases newOf cfg X env o (base + i) <;> rfl

theorem eff_write {i : Nat} {o : Oper} (h : kin cfg cur o = .write) (env : Env) : (∃ p, ∀ H m, effA cfg X cur ops base i o env H m = some (p, H, m)) ∨
    ∀ H m, effA cfg X cur ops base i o env H m = match effWrite cfg env H o (base + i) with | some (p, H') => some (p, H', m) | none => none := by
  have hc : cls cfg cur o = .write := by
    unfold kin at h
    cases hc : cls cfg cur o <;> rw [hc] at h <;> simp at h ⊢
    split at h <;> cases h
  cases hw : wantA env ops o with
  | false => exact .inl ⟨undefP, fun H m => by unfold effA; rw [hw]⟩
  | true =>
    refine .inr fun H m => ?_
    unfold effA
    rw [hw, hc]
    simp only
    cases effWrite cfg env H o (base + i) <;> rfl

/-- Two effects in the other order. -/
theorem eff_swap {i j : Nat} {oi oj : Oper} (hij : j ≠ i) (hk : kinOK (kin cfg cur oj) (kin cfg cur oi) = true) {env : Env} {H Hj Hij : Heap} {m mj mij : Nat} {pi pj : PV} (h1 : effA cfg X cur ops base j oj env H m = some (pj, Hj, mj))
    (h2 : effA cfg X cur ops base i oi env Hj mj = some (pi, Hij, mij)) : ∃ Hi mi, effA cfg X cur ops base i oi env H m = some (pi, Hi, mi) ∧ effA cfg X cur ops base j oj env Hi mi = some (pj, Hij, mij) := by
  by_cases hpi : kin cfg cur oi = .pure
  · obtain ⟨r, hr⟩ := eff_pure (X := X) (ops := ops) (base := base) (i := i) (.inl hpi) env
    rw [hr] at h2
    cases r with
    | none => cases h2
    | some p => cases h2; exact ⟨H, m, by rw [hr]; rfl, h1⟩
  by_cases hpj : kin cfg cur oj = .pure
  · obtain ⟨r, hr⟩ := eff_pure (X := X) (ops := ops) (base := base) (i := j) (.inl hpj) env
    rw [hr] at h1
    cases r with
    | none => cases h1
    | some p => cases h1; exact ⟨Hij, mij, h2, by rw [hr]; rfl⟩
  have rr : (kin cfg cur oj = .read ∨ kin cfg cur oj = .call) → (kin cfg cur oi = .read ∨ kin cfg cur oi = .call) → ∃ Hi mi, effA cfg X cur ops base i oi env H m = some (pi, Hi, mi) ∧ effA cfg X cur ops base j oj env Hi mi = some (pj, Hij, mij) := by
    intro hj hi
    obtain ⟨f, hf, _⟩ := eff_read (X := X) (ops := ops) (base := base) (i := j) hj env
    obtain ⟨g, hg, _⟩ := eff_read (X := X) (ops := ops) (base := base) (i := i) hi env
    rw [hf] at h1
    cases hfH : f H with
    | none => rw [hfH] at h1; cases h1
    | some p =>
      rw [hfH] at h1
      cases h1
      rw [hg] at h2
      cases hgH : g H with
      | none => rw [hgH] at h2; cases h2
      | some q =>
        rw [hgH] at h2
        cases h2
        exact ⟨H, m, by rw [hg, hgH]; rfl, by rw [hf, hfH]; rfl⟩
  cases hkj : kin cfg cur oj <;> cases hki : kin cfg cur oi <;> rw [hkj, hki] at hk <;> first
    | exact absurd hki hpi
    | exact absurd hkj hpj
    | exact rr (.inl hkj) (.inl hki)
    | exact rr (.inl hkj) (.inr hki)
    | exact rr (.inr hkj) (.inl hki)
    | exact rr (.inr hkj) (.inr hki)
    | skip
  all_goals try (simp [kinOK] at hk; done)
  · -- new, new
    have hne : base + j ≠ base + i := by omega
    rcases eff_new (X := X) (ops := ops) (base := base) (i := i) hki env with ⟨p, hp⟩ | ⟨r, hr⟩
    · rw [hp] at h2
      cases h2
      exact ⟨H, m, hp H m, h1⟩
    rcases eff_new (X := X) (ops := ops) (base := base) (i := j) hkj env with ⟨p, hp⟩ | ⟨r', hr'⟩
    · rw [hp] at h1
      cases h1
      exact ⟨Hij, mij, h2, hp Hij mij⟩
    rw [hr'] at h1
    rw [hr] at h2
    cases r' with
    | none => cases h1
    | some y =>
      obtain ⟨p, ob⟩ := y
      simp only at h1
      split at h1 <;> try cases h1
      rename_i hn
      cases r with
      | none => cases h2
      | some z =>
        obtain ⟨q, ob'⟩ := z
        simp only at h2
        split at h2 <;> try cases h2
        rename_i hn2
        rw [put_get] at hn2
        rw [if_neg (Ne.symm hne)] at hn2
        refine ⟨H.put (base + i) (0, ob'), m, ?_, ?_⟩
        · rw [hr]; simp only [hn2]
        · rw [hr']
          have : (H.put (base + i) (0, ob')).get (base + j) = none := by rw [put_get, if_neg hne]; exact hn
          simp only [this]
          rw [put_comm H (k := base + j) (q := base + i) hne]
  · -- read, new
    obtain ⟨f, hf, hmono⟩ := eff_read (X := X) (ops := ops) (base := base) (i := j) (.inl hkj) env
    rw [hf] at h1
    cases hfH : f H with
    | none => rw [hfH] at h1; cases h1
    | some p =>
      rw [hfH] at h1
      cases h1
      rcases eff_new (X := X) (ops := ops) (base := base) (i := i) hki env with ⟨q, hq⟩ | ⟨r, hr⟩
      · rw [hq] at h2
        cases h2
        exact ⟨H, m, hq H m, by rw [hf, hfH]; rfl⟩
      · rw [hr] at h2
        cases r with
        | none => cases h2
        | some z =>
          obtain ⟨q, ob⟩ := z
          simp only at h2
          split at h2 <;> try cases h2
          rename_i hn
          exact ⟨H.put (base + i) (0, ob), m, by rw [hr]; simp only [hn], by rw [hf, hmono hkj H _ _ _ hn hfH]; rfl⟩
  · -- write, new
    rcases eff_write (X := X) (ops := ops) (base := base) (i := j) hkj env with ⟨p, hp⟩ | hw
    · rw [hp] at h1
      cases h1
      exact ⟨Hij, mij, h2, hp Hij mij⟩
    rcases eff_new (X := X) (ops := ops) (base := base) (i := i) hki env with ⟨q, hq⟩ | ⟨r, hr⟩
    · rw [hq] at h2
      cases h2
      exact ⟨H, m, hq H m, h1⟩
    rw [hw] at h1
    cases heff : effWrite cfg env H oj (base + j) with
    | none => rw [heff] at h1; cases h1
    | some y =>
      obtain ⟨p, H1⟩ := y
      rw [heff] at h1
      cases h1
      rw [hr] at h2
      cases r with
      | none => cases h2
      | some z =>
        obtain ⟨q, ob⟩ := z
        simp only at h2
        split at h2 <;> try cases h2
        rename_i hn
        unfold effWrite at heff
        split at heff
        · rename_i hnj
          split at heff <;> cases heff
          rename_i d hd
          obtain ⟨hn0, hne⟩ := applyD_none d H hn
          refine ⟨H.put (base + i) (0, ob), m, by rw [hr]; simp only [hn0], ?_⟩
          rw [hw]
          have h3 : (H.put (base + i) (0, ob)).get (base + j) = none := by rw [put_get, if_neg (by omega)]; exact hnj
          unfold effWrite
          rw [h3]
          simp only [aopWrite_put hn0 hd]
          rw [applyD_put d H hne]
        · cases heff
end
end Go.Proofs.YtddaogebacigbaaGreatDoor.RV
