/- A part of the evaluator over abstract values, and that it is right (RvW). Conditions: none. -/
import Derived.Test.YtddaogebacigbaaGreatDoorRvV
set_option linter.constructorNameAsVariable false
namespace Go.Proofs.YtddaogebacigbaaGreatDoor.RV
open Go.RowKit (Below)

section
variable {cfg : Cfg} {X : Run} {cur : FuncId} {ops : Array Oper} {base : Nat}

/-- Operations with their numbers, one behind the other. -/
def runL (cfg : Cfg) (X : Run) (cur : FuncId) (ops : Array Oper) (base : Nat) : List (Nat × Oper) → St → Option St
  | [], s => some s
  | (i, o) :: l, s => match stepA cfg X cur ops base i o s with
    | some s' => runL cfg X cur ops base l s'
    | none => none

theorem runL_of_ops : ∀ (os : List Oper) (i : Nat) (s : St), runOps cfg X cur ops base os i s = runL cfg X cur ops base ((List.range' i os.length).zip os) s
  | [], i, s => by simp [runOps, runL]
  | o :: os, i, s => by
    simp only [List.length_cons, List.range'_succ, List.zip_cons_cons, runOps, runL]
    cases stepA cfg X cur ops base i o s with
    | none => rfl
    | some s' => exact runL_of_ops os (i + 1) s'

theorem step_swap {i j : Nat} {oi oj : Oper} {s s1 s2 : St} (hij : j ≠ i) (hin : indep cfg cur ops oj oi = true) (_ : s.sz ≤ 8000) (h1 : stepA cfg X cur ops base j oj s = some s1) (h2 : stepA cfg X cur ops base i oi s1 = some s2) :
    ∃ s1', stepA cfg X cur ops base i oi s = some s1' ∧ stepA cfg X cur ops base j oj s1' = some s2 := by
  unfold indep at hin
  simp only [Bool.and_eq_true] at hin
  obtain ⟨hap, hk⟩ := hin
  obtain ⟨a1, a2, a3⟩ := Oper.apart_spec hap
  obtain ⟨pj, Hj, mj, hej, hlj, rfl⟩ := step_iff.1 h1
  obtain ⟨pi, Hij, mij, hei, hli, rfl⟩ := step_iff.1 h2
  rw [effA_congr (env := s.env) (d := oj.dst) (p := pj) a1 rfl] at hei
  obtain ⟨Hi, mi, e1, e2⟩ := eff_swap hij hk hej hei
  refine ⟨⟨putD s.env oi.dst pi, Hi, mi, s.sz⟩, step_iff.2 ⟨pi, Hi, mi, e1, hli, rfl⟩, step_iff.2 ⟨pj, Hij, mij, ?_, hlj, ?_⟩⟩
  · rw [effA_congr (env := s.env) (d := oi.dst) (p := pi) a3 rfl]
    exact e2
  · simp only
    rw [putD_comm a2]

theorem step_sz {i : Nat} {o : Oper} {s s' : St} (h : stepA cfg X cur ops base i o s = some s') : s'.sz = s.sz := by
  obtain ⟨p, H, m, _, _, rfl⟩ := step_iff.1 h
  rfl

theorem putD_other {env : Env} {d : Option Tmp} {p : PV} {a : Tmp} (h : d ≠ some a) : (putD env d p).at a = env.at a := by
  cases d with
  | none => rfl
  | some t =>
    unfold putD Env.at
    rw [put_get, if_neg (fun e => h (by rw [e]))]
def ptrId : PV → Option Nat
  | .ptr id _ _ _ => some id
  | _ => none
theorem applyD_get_ne {k : Nat} : ∀ (d : Delta) (H : Heap), (∀ e ∈ d, e.1 ≠ k) → (applyD H d).get k = H.get k
  | [], H, _ => rfl
  | (id, ver, o) :: d, H, h => by
    rw [applyD_cons, applyD_get_ne d _ (fun e he => h e (by simp [he])), put_get, if_neg (fun e => h (id, ver, o) (by simp) e.symm)]
theorem runL_keeps {a : Tmp} {sf : St} : ∀ (l : List (Nat × Oper)) {s : St}, runL cfg X cur ops base l s = some sf → (∀ y ∈ l, y.2.dst ≠ some a) → sf.env.at a = s.env.at a
  | [], s, h, _ => by simp only [runL] at h; cases h; rfl
  | (j, oj) :: l, s, h, hn => by
    simp only [runL] at h
    cases hs : stepA cfg X cur ops base j oj s with
    | none => rw [hs] at h; cases h
    | some sj =>
      rw [hs] at h
      rw [runL_keeps l h (fun y hy => hn y (by simp [hy]))]
      obtain ⟨p, H, m, _, _, rfl⟩ := step_iff.1 hs
      exact putD_other (hn (j, oj) (by simp))
/-- A load and a store into another block, in the other order. -/
theorem step_swapD {i j : Nat} {oi oj : Oper} {s s1 s2 : St} {a b : Tmp} {t t' : TypeId} {x : Operand} (hap : oj.apart ops oi = true) (hgj : oj.guard = none) (hgi : oi.guard = none) (hoj : oj.op = .load t (.tmp a)) (hoi : oi.op = .store t' (.tmp b) x)
    (hd : ptrsApart (s.env.at a) (s.env.at b) = true) (h1 : stepA cfg X cur ops base j oj s = some s1) (h2 : stepA cfg X cur ops base i oi s1 = some s2) :
    ∃ s1', stepA cfg X cur ops base i oi s = some s1' ∧ stepA cfg X cur ops base j oj s1' = some s2 := by
  obtain ⟨a1, a2, a3⟩ := Oper.apart_spec hap
  obtain ⟨pj, Hj, mj, hej, hlj, rfl⟩ := step_iff.1 h1
  obtain ⟨pi, Hij, mij, hei, hli, rfl⟩ := step_iff.1 h2
  rw [effA_congr (env := s.env) (d := oj.dst) (p := pj) a1 rfl] at hei
  have sw : ∃ Hi mi, effA cfg X cur ops base i oi s.env s.H s.m = some (pi, Hi, mi) ∧ effA cfg X cur ops base j oj s.env Hi mi = some (pj, Hij, mij) := by
    have hci : cls cfg cur oi = .write := by unfold cls; rw [hoi]
    have hwi : wantA s.env ops oi = true := by unfold wantA; rw [hgi]
    have hwj : wantA s.env ops oj = true := by unfold wantA; rw [hgj]
    have hki : callee? oi.op = none := by rw [hoi]; rfl
    have hkj : callee? oj.op = none := by rw [hoj]; rfl
    -- the store
    have hst : ∀ H m, effA cfg X cur ops base i oi s.env H m = match effWrite cfg s.env H oi (base + i) with | some (p, H') => some (p, H', m) | none => none := by
      intro H m
      unfold effA
      rw [hwi, hci]
      cases effWrite cfg s.env H oi (base + i) <;> rfl
    -- the load leaves the memory as it is
    have hld : ∃ f : Heap → Option PV, (∀ H m, effA cfg X cur ops base j oj s.env H m = match f H with | some p => some (p, H, m) | none => none) ∧
        ∀ H δ p, (∀ e ∈ δ, ptrId (s.env.at b) = some e.1) → f H = some p → f (applyD H δ) = some p := by
      have hcj : cls cfg cur oj = .pure ∨ cls cfg cur oj = .read := by
        unfold cls
        rw [hoj]
        dsimp only
        split <;> simp
      rcases hcj with hcj | hcj
      · refine ⟨fun _ => effPure cfg X s.env oj, fun H m => ?_, fun _ _ _ _ h => h⟩
        unfold effA
        rw [hwj, hcj]
        dsimp only
        cases effPure cfg X s.env oj <;> rfl
      · refine ⟨fun H => loadA cfg.P H t (s.env.at a), fun H m => ?_, fun H δ p hδ h => ?_⟩
        · unfold effA
          rw [hwj, hcj]
          dsimp only
          unfold effRead
          rw [hkj]
          dsimp only
          unfold aopRead
          rw [hoj]
          dsimp only [evO]
          cases loadA cfg.P H t (s.env.at a) <;> rfl
        · cases hpa : s.env.at a with
          | dptr l off => rw [hpa] at h; exact h
          | ptr id v ix off =>
            rw [hpa] at h hd
            cases hpb : s.env.at b with
            | ptr id' v' ix' off' =>
              rw [hpb] at hd hδ
              have hne : id ≠ id' := by
                intro e
                rw [e] at hd
                simp [ptrsApart] at hd
              have hob : obj (applyD H δ) id v = obj H id v := by
                unfold obj
                rw [applyD_get_ne δ H (fun e he => by have := hδ e he; simp only [ptrId, Option.some.injEq] at this; rw [← this]; exact fun hh => hne hh.symm)]
              unfold loadA at h ⊢
              dsimp only at h ⊢
              rw [hob]
              exact h
            | _ => rw [hpb] at hd; simp [ptrsApart] at hd
          | _ => rw [hpa] at h; simp [loadA] at h
    obtain ⟨f, hf, hmono⟩ := hld
    rw [hf] at hej
    cases hfH : f s.H with
    | none => rw [hfH] at hej; cases hej
    | some q =>
      rw [hfH] at hej
      cases hej
      rw [hst] at hei
      cases he : effWrite cfg s.env s.H oi (base + i) with
      | none => rw [he] at hei; cases hei
      | some r =>
        obtain ⟨p, H'⟩ := r
        rw [he] at hei
        cases hei
        refine ⟨_, _, by rw [hst, he], ?_⟩
        rw [hf]
        unfold effWrite at he
        split at he
        · split at he <;> cases he
          rename_i δ hw
          rw [hmono s.H _ _ ?_ hfH]
          intro e hem
          unfold aopWrite at hw
          rw [hoi] at hw
          dsimp only [evO] at hw
          split at hw
          · rename_i p1 v1 hp1 _
            cases hp1
            split at hw <;> cases hw
            rename_i hsa
            unfold storeA at hsa
            split at hsa
            · rename_i id ver idx off hpb
              rw [hpb]
              split at hsa
              · split at hsa
                · split at hsa
                  · split at hsa
                    · cases hsa; simp at hem; subst hem; rfl
                    · split at hsa
                      · cases hsa
                      · split at hsa <;> cases hsa
                        simp at hem; subst hem; rfl
                  · cases hsa
                · cases hsa
              · cases hsa
            · cases hsa
          · cases hw
        · cases he
  obtain ⟨Hi, mi, e1, e2⟩ := sw
  refine ⟨⟨putD s.env oi.dst pi, Hi, mi, s.sz⟩, step_iff.2 ⟨pi, Hi, mi, e1, hli, rfl⟩, step_iff.2 ⟨pj, Hij, mij, ?_, hlj, ?_⟩⟩
  · rw [effA_congr (env := s.env) (d := oi.dst) (p := pi) a3 rfl]
    exact e2
  · simp only
    rw [putD_comm a2]

theorem noLater_spec {l : List Oper} {j : Nat} {a : Tmp} (h : noLater l j a = true) {k : Nat} {o : Oper} (ho : l[k]? = some o) (hk : j ≤ k) : o.dst ≠ some a := by
  unfold noLater at h
  have hm : o ∈ l.drop j := by
    refine List.mem_iff_getElem?.2 ⟨k - j, ?_⟩
    rw [List.getElem?_drop, show j + (k - j) = k by omega]
    exact ho
  have := List.all_eq_true.1 h o hm
  intro e
  rw [e] at this
  simp at this

/-- Whichever may come first may be taken to the front. -/
theorem runL_front {i : Nat} {oi : Oper} {l2 : List (Nat × Oper)} {sf : St} (hoi : ops[i]? = some oi) (h2 : ∀ y ∈ l2, ops[y.1]? = some y.2 ∧ i < y.1) : ∀ (l1 : List (Nat × Oper)) {s : St}, s.sz ≤ 8000 → (∀ x ∈ l1, ops[x.1]? = some x.2 ∧ x.1 < i ∧ (indep cfg cur ops x.2 oi || dynP ops sf.env x.1 x.2 i oi) = true) → l1.Pairwise (fun x y => x.1 < y.1) → runL cfg X cur ops base (l1 ++ (i, oi) :: l2) s = some sf →
    ∃ s1, stepA cfg X cur ops base i oi s = some s1 ∧ runL cfg X cur ops base (l1 ++ l2) s1 = some sf
  | [], s, _, _, _, h => by
    simp only [List.nil_append, runL] at h ⊢
    cases hs : stepA cfg X cur ops base i oi s with
    | none => rw [hs] at h; cases h
    | some s1 => rw [hs] at h; exact ⟨s1, rfl, h⟩
  | (j, oj) :: l1, s, hsz, hin, hpw, h => by
    simp only [List.cons_append, runL] at h ⊢
    cases hs : stepA cfg X cur ops base j oj s with
    | none => rw [hs] at h; cases h
    | some sj =>
      rw [hs] at h
      obtain ⟨hpw1, hpw2⟩ := List.pairwise_cons.1 hpw
      obtain ⟨s2, h1, hrun⟩ := runL_front hoi h2 l1 (by rw [step_sz hs]; exact hsz) (fun x hx => hin x (by simp [hx])) hpw2 h
      obtain ⟨hoj, hlt, hind⟩ := hin (j, oj) (by simp)
      have hne : j ≠ i := by have : j < i := hlt; omega
      cases hst : indep cfg cur ops oj oi with
      | true =>
        obtain ⟨s1', h3, h4⟩ := step_swap hne hst hsz hs h1
        exact ⟨s1', h3, by rw [h4]; exact hrun⟩
      | false =>
        have hind : (indep cfg cur ops oj oi || dynP ops sf.env j oj i oi) = true := hind
        rw [hst, Bool.false_or] at hind
        unfold dynP at hind
        rw [Bool.and_eq_true] at hind
        obtain ⟨hap, hind⟩ := hind
        split at hind
        · rename_i t a t' b x hgj hgi hopj hopi
          simp only [Bool.and_eq_true] at hind
          obtain ⟨n1, n2, hpt⟩ := hind
          obtain ⟨a1, a2, a3⟩ := Oper.apart_spec hap
          have hl : ∀ {k : Nat} {o : Oper}, ops[k]? = some o → ops.toList[k]? = some o := fun h => by simpa using h
          have hb : b ∈ oi.looksAt ops := List.mem_append_left _ (List.mem_filterMap.2 ⟨.tmp b, by rw [hopi]; simp [Op.operands], rfl⟩)
          have ka : sf.env.at a = s2.env.at a := runL_keeps _ hrun fun y hy => by
            rcases List.mem_append.1 hy with hy | hy
            · exact noLater_spec n1 (hl (hin y (by simp [hy])).1) (Nat.le_of_lt (hpw1 y hy))
            · exact noLater_spec n1 (hl (h2 y hy).1) (by have := (h2 y hy).2; omega)
          have kb : sf.env.at b = s2.env.at b := runL_keeps _ hrun fun y hy => by
            rcases List.mem_append.1 hy with hy | hy
            · have hyi := (hin y (by simp [hy])).2.2
              have hya : y.2.apart ops oi = true := by
                cases hq : indep cfg cur ops y.2 oi with
                | true => unfold indep at hq; rw [Bool.and_eq_true] at hq; exact hq.1
                | false =>
                  rw [hq, Bool.false_or] at hyi
                  unfold dynP at hyi
                  rw [Bool.and_eq_true] at hyi
                  exact hyi.1
              intro e
              exact (Oper.apart_spec hya).1 b e hb
            · exact noLater_spec n2 (hl (h2 y hy).1) (Nat.le_of_lt (h2 y hy).2)
          have sa : s2.env.at a = s.env.at a := by
            obtain ⟨p, H, m, _, _, rfl⟩ := step_iff.1 hs
            obtain ⟨p2, H2, m2, _, _, rfl⟩ := step_iff.1 h1
            have e1 := putD_other (env := putD s.env oj.dst p) (p := p2) (noLater_spec n1 (hl hoi) (Nat.le_of_lt hlt))
            have e2 := putD_other (env := s.env) (p := p) (noLater_spec n1 (hl hoj) (Nat.le_refl _))
            exact e1.trans e2
          have sb : s2.env.at b = s.env.at b := by
            obtain ⟨p, H, m, _, _, rfl⟩ := step_iff.1 hs
            obtain ⟨p2, H2, m2, _, _, rfl⟩ := step_iff.1 h1
            have e1 := putD_other (env := putD s.env oj.dst p) (p := p2) (noLater_spec n2 (hl hoi) (Nat.le_refl _))
            have e2 := putD_other (env := s.env) (p := p) (a := b) (fun e => a1 b e hb)
            exact e1.trans e2
          rw [ka, kb, sa, sb] at hpt
          obtain ⟨s1', h3, h4⟩ := step_swapD hap hgj hgi hopj hopi hpt hs h1
          exact ⟨s1', h3, by rw [h4]; exact hrun⟩
        · cases hind

/-! ### What waits for what -/
theorem maskOf_bit {o : Oper} {acc : List Nat} {j : Nat} (h : (maskOf o acc).testBit j = true) : ∃ e ∈ o.after.toList, Region.binds .any e = true ∧ (j = e.on ∨ ∃ m, acc[e.on]? = some m ∧ m.testBit j = true) := by
  have key : ∀ (es : List Edge) (m : Nat), (es.foldl (fun m e => if Region.binds .any e then m ||| (2 ^ e.on ||| (acc[e.on]?).getD 0) else m) m).testBit j = true →
      m.testBit j = true ∨ ∃ e ∈ es, Region.binds .any e = true ∧ (j = e.on ∨ ∃ m, acc[e.on]? = some m ∧ m.testBit j = true) := by
    intro es
    induction es with
    | nil => exact fun m h => .inl h
    | cons e es ih =>
      intro m h
      rw [List.foldl_cons] at h
      rcases ih _ h with h1 | ⟨e', he', r⟩
      · split at h1
        · rename_i hb
          rw [Nat.testBit_or, Nat.testBit_or, Bool.or_eq_true, Bool.or_eq_true] at h1
          rcases h1 with h1 | h1 | h1
          · exact .inl h1
          · rw [Nat.testBit_two_pow] at h1
            exact .inr ⟨e, by simp, hb, .inl (by have := of_decide_eq_true h1; exact this.symm)⟩
          · cases ha : acc[e.on]? with
            | none => rw [ha] at h1; simp at h1
            | some m' => rw [ha] at h1; exact .inr ⟨e, by simp, hb, .inr ⟨m', ha, by simpa using h1⟩⟩
        · exact .inl h1
      · exact .inr ⟨e', by simp [he'], r⟩
  rcases key _ 0 h with h | h
  · simp at h
  · exact h

theorem masks_spec : ∀ (os : List Oper) (acc : List Nat) (pre : List Oper), acc.length = pre.length →
    (∀ (i : Nat) (m : Nat), acc[i]? = some m → ∀ j, m.testBit j = true → ∃ o, pre[i]? = some o ∧ ∃ e ∈ o.after.toList, Region.binds .any e = true ∧ (j = e.on ∨ ∃ m', acc[e.on]? = some m' ∧ m'.testBit j = true)) →
    ∀ (i : Nat) (m : Nat), (masks os acc)[i]? = some m → ∀ j, m.testBit j = true → ∃ o, (pre ++ os)[i]? = some o ∧ ∃ e ∈ o.after.toList, Region.binds .any e = true ∧ (j = e.on ∨ ∃ m', (masks os acc)[e.on]? = some m' ∧ m'.testBit j = true)
  | [], acc, pre, _, h => by simpa [masks] using h
  | o :: os, acc, pre, hl, h => by
    intro i m hm j hj
    have ih := masks_spec os (acc ++ [maskOf o acc]) (pre ++ [o]) (by simp [hl]) ?_ i m hm j hj
    · simpa [masks] using ih
    · have up : ∀ {k m'}, acc[k]? = some m' → (acc ++ [maskOf o acc])[k]? = some m' := fun {k m'} hk => by
        rw [List.getElem?_append_left (List.getElem?_eq_some_iff.1 hk).1]; exact hk
      intro i m hm j hj
      rw [List.getElem?_append] at hm
      split at hm
      · rename_i hi
        obtain ⟨o', ho', e, he, hb, hr⟩ := h i m hm j hj
        exact ⟨o', by rw [List.getElem?_append_left (by omega)]; exact ho', e, he, hb, hr.imp id fun ⟨m', h1, h2⟩ => ⟨m', up h1, h2⟩⟩
      · rename_i hi
        have hi0 : i - acc.length = 0 := by
          have := (List.getElem?_eq_some_iff.1 hm).1
          simpa using this
        rw [hi0] at hm
        simp at hm
        subst hm
        obtain ⟨e, he, hb, hr⟩ := maskOf_bit hj
        exact ⟨o, by rw [List.getElem?_append_right (by omega), show i - pre.length = 0 by omega]; rfl, e, he, hb, hr.imp id fun ⟨m', h1, h2⟩ => ⟨m', up h1, h2⟩⟩

theorem pairsOK_spec {pr : Pairs} {ms : List Nat} {i : Nat} {o : Oper} : ∀ (xs : List Oper) (j : Nat), pairsOK pr ms i o xs j = true → ∀ k x, xs[k]? = some x → j + k < i → ((ms[i]?).getD 0).testBit (j + k) = true ∨ pr (j + k) x i o = true
  | [], _, _, k, x, h, _ => by simp at h
  | y :: ys, j, h, k, x, hx, hlt => by
    simp only [pairsOK, Bool.and_eq_true, Bool.or_eq_true, decide_eq_true_eq] at h
    obtain ⟨h1, h2⟩ := h
    cases k with
    | zero =>
      simp at hx
      subst hx
      rcases h1 with h1 | h1
      · omega
      · simpa using h1
    | succ k =>
      have := pairsOK_spec ys (j + 1) h2 k x (by simpa using hx) (by omega)
      rw [show j + (k + 1) = j + 1 + k by omega]
      exact this

theorem allOK_spec {pr : Pairs} {l : List Oper} {ms : List Nat} : ∀ (os : List Oper) (i : Nat), allOK pr l ms os i = true → ∀ k o, os[k]? = some o → edgesOK (i + k) o = true ∧ pairsOK pr ms (i + k) o l 0 = true
  | [], _, _, k, o, h => by simp at h
  | y :: ys, i, h, k, o, ho => by
    simp only [allOK, Bool.and_eq_true] at h
    obtain ⟨h1, h2, h3⟩ := h
    cases k with
    | zero => simp at ho; subst ho; exact ⟨h1, h2⟩
    | succ k =>
      have := allOK_spec ys (i + 1) h3 k o (by simpa using ho)
      rw [show i + (k + 1) = i + 1 + k by omega]
      exact this

variable {O0 : Nat → Prop} {Q : Exit → Act → World → Prop} {sf : St}

theorem wpAny_runL (hC : CfgOK cfg drawOK) (hX : XOK cfg drawOK X) (hD : drawD cfg cur ops sf.env = true) : ∀ (fuel : Nat) (rem : List (Nat × Oper)) (listed : Array Bool) {s : St} {a : Act} {w : World} {ι : Iota},
    rem.length ≤ fuel → listed.size = ops.size → (∀ x ∈ rem, ops[x.1]? = some x.2 ∧ listed.getD x.1 true = false) → (∀ j, j < ops.size → listed.getD j false = false → ∃ o, (j, o) ∈ rem) → rem.Pairwise (fun x y => x.1 < y.1) →
    (∀ k o, ops[k]? = some o → listed.getD k false = true → ∀ e ∈ o.after, Region.binds .any e = true → listed.getD e.on false = true) →
    Rel cfg O0 ι s a w → runL cfg X cur ops base rem s = some sf → (∀ a' w' ι', Rel cfg O0 ι' sf a' w' → Step ι s.H w ι' sf.H w' → Q .normal a' w') → wpAny cfg.P .any ops Q fuel listed a w := by
  -- an operation that is ready stands among those that remain
  have ready_rem : ∀ {rem : List (Nat × Oper)} {listed : Array Bool} {i : Nat}, listed.size = ops.size → (∀ x ∈ rem, ops[x.1]? = some x.2 ∧ listed.getD x.1 true = false) → (∀ j, j < ops.size → listed.getD j false = false → ∃ o, (j, o) ∈ rem) → i ∈ Region.ready .any ops listed →
      ∃ o, (i, o) ∈ rem ∧ ops[i]? = some o ∧ ∀ e ∈ o.after, Region.binds .any e = true → listed.getD e.on false = true := by
    intro rem listed i hsz h1 h2 hr
    obtain ⟨hun, o, ho, hall⟩ := mem_ready.1 hr
    have hi : i < ops.size := (Array.getElem?_eq_some_iff.1 ho).1
    have hf : listed.getD i false = false := by
      have hl : i < listed.size := by rw [hsz]; exact hi
      simp [hl] at hun ⊢
      exact hun
    obtain ⟨o', ho'⟩ := h2 i hi hf
    have h5 : ops[i]? = some o' := (h1 _ ho').1
    have he : o = o' := Option.some.inj (ho.symm.trans h5)
    exact ⟨o, by rw [he]; exact ho', ho, hall⟩
  -- the first of those that remain is ready
  have first_ready : ∀ {x : Nat × Oper} {rem : List (Nat × Oper)} {listed : Array Bool}, listed.size = ops.size → (∀ y ∈ x :: rem, ops[y.1]? = some y.2 ∧ listed.getD y.1 true = false) → (∀ j, j < ops.size → listed.getD j false = false → ∃ o, (j, o) ∈ x :: rem) → (x :: rem).Pairwise (fun x y => x.1 < y.1) → x.1 ∈ Region.ready .any ops listed := by
    intro x rem listed hsz h1 h2 hp
    obtain ⟨ho, hun⟩ := h1 x (by simp)
    refine mem_ready.2 ⟨hun, x.2, ho, fun e he hb => ?_⟩
    have hk := allOK_spec (ms := masks ops.toList []) ops.toList 0 hD x.1 x.2 (by simpa using ho)
    rw [Nat.zero_add] at hk
    have hlt : e.on < x.1 := by
      have := hk.1
      unfold edgesOK at this
      have h3 := List.all_eq_true.1 this e (by simpa using he)
      simpa [hb] using h3
    cases hl : listed.getD e.on false with
    | true => rfl
    | false =>
      obtain ⟨o, ho2⟩ := h2 e.on (Nat.lt_trans hlt (Array.getElem?_eq_some_iff.1 ho).1) hl
      rcases List.mem_cons.1 ho2 with h3 | h3
      · have h4 : e.on = x.1 := congrArg Prod.fst h3
        omega
      · have := (List.pairwise_cons.1 hp).1 _ h3
        simp only at this
        omega
  intro fuel
  induction fuel with
  | zero =>
    intro rem listed s a w ι hlen hsz h1 h2 hp h3 hR hrun hQ
    have hrem : rem = [] := List.eq_nil_of_length_eq_zero (by omega)
    subst hrem
    simp only [runL, Option.some.injEq] at hrun
    subst hrun
    refine ⟨?_, hQ a w ι hR .refl⟩
    cases hr : Region.ready .any ops listed with
    | nil => rfl
    | cons i l =>
      obtain ⟨o, ho, _⟩ := ready_rem hsz h1 h2 (i := i) (by rw [hr]; simp)
      cases ho
  | succ fuel ih =>
    intro rem listed s a w ι hlen hsz h1 h2 hp h3 hR hrun hQ
    refine ⟨fun hr => ?_, fun i hi => ?_⟩
    · cases rem with
      | nil =>
        simp only [runL, Option.some.injEq] at hrun
        subst hrun
        exact hQ a w ι hR .refl
      | cons x rem =>
        have := first_ready hsz h1 h2 hp
        rw [hr] at this
        cases this
    · obtain ⟨oi, hmem, hoi, hall⟩ := ready_rem hsz h1 h2 hi
      obtain ⟨l1, l2, rfl⟩ := List.append_of_mem hmem
      have hpair := List.pairwise_append.1 hp
      have hlow : ∀ x ∈ l1, x.1 < i := fun x hx => hpair.2.2 x hx (i, oi) (by simp)
      have hhigh : ∀ x ∈ l2, i < x.1 := fun x hx => (List.pairwise_cons.1 hpair.2.1).1 x hx
      -- all that it waits for has come up
      have hclosed : ∀ (n k : Nat), k < n → ∀ o : Oper, ops[k]? = some o → (∀ e ∈ o.after, Region.binds .any e = true → listed.getD e.on false = true) → ∀ m : Nat, (masks ops.toList [])[k]? = some m → ∀ j, m.testBit j = true → listed.getD j false = true := by
        intro n
        induction n with
        | zero => intro k hk; omega
        | succ n ihn =>
          intro k hk o ho hdir m hm j hj
          obtain ⟨o', ho', e, he, hb, hr⟩ := masks_spec ops.toList [] [] rfl (fun i m h => by simp at h) k m hm j hj
          have : o' = o := by
            have h5 : ops[k]? = some o' := by simpa using ho'
            rw [ho] at h5
            exact (Option.some.inj h5).symm
          subst this
          have hle := hdir e (by simpa using he) hb
          rcases hr with rfl | ⟨m', hm', hj'⟩
          · exact hle
          · have hlt : e.on < k := by
              have hk2 := allOK_spec (ms := masks ops.toList []) ops.toList 0 hD k o' (by simpa using ho)
              rw [Nat.zero_add] at hk2
              have h6 := hk2.1
              unfold edgesOK at h6
              have h7 := List.all_eq_true.1 h6 e he
              simpa [hb] using h7
            obtain ⟨oe, hoe⟩ : ∃ oe, ops[e.on]? = some oe := ⟨ops[e.on]'(Nat.lt_trans hlt (Array.getElem?_eq_some_iff.1 ho).1), by simp⟩
            exact ihn e.on (by omega) oe hoe (h3 e.on oe hoe hle) m' hm' j hj'
      have hind : ∀ x ∈ l1, ops[x.1]? = some x.2 ∧ x.1 < i ∧ (indep cfg cur ops x.2 oi || dynP ops sf.env x.1 x.2 i oi) = true := by
        intro x hx
        have hlt := hlow x hx
        obtain ⟨hox, hunx⟩ := h1 x (by simp [hx])
        refine ⟨hox, hlt, ?_⟩
        have hk := allOK_spec (ms := masks ops.toList []) ops.toList 0 hD i oi (by simpa using hoi)
        rw [Nat.zero_add] at hk
        have hp2 := pairsOK_spec ops.toList 0 hk.2 x.1 x.2 (by simpa using hox) (by omega)
        rw [Nat.zero_add] at hp2
        rcases hp2 with hbit | hbit
        · exfalso
          cases hms : (masks ops.toList [])[i]? with
          | none => rw [hms] at hbit; simp at hbit
          | some m =>
            rw [hms] at hbit
            have := hclosed (i + 1) i (by omega) oi hoi hall m hms x.1 (by simpa using hbit)
            have hl : x.1 < listed.size := by rw [hsz]; exact (Array.getElem?_eq_some_iff.1 hox).1
            simp [hl] at this hunx
            rw [this] at hunx
            cases hunx
        · exact hbit
      obtain ⟨s1, hs1, hrun1⟩ := runL_front hoi (fun y hy => ⟨(h1 y (by simp [hy])).1, hhigh y hy⟩) l1 (by have := hR.sz; exact this) hind hpair.1 hrun
      refine stepA_sound hC hX hR hoi hs1 fun a' w' ι' hR' hS => ?_
      refine ih (l1 ++ l2) (listed.setIfInBounds i true) (by simp at hlen ⊢; omega) (by simpa using hsz) ?_ ?_ ?_ ?_ hR' hrun1 (fun a2 w2 ι2 hR2 hS2 => hQ a2 w2 ι2 hR2 (hS.trans hS2))
      · intro x hx
        have hxm : x ∈ l1 ++ (i, oi) :: l2 := by
          rcases List.mem_append.1 hx with h | h
          · exact List.mem_append_left _ h
          · exact List.mem_append_right _ (by simp [h])
        obtain ⟨h4, h5⟩ := h1 x hxm
        refine ⟨h4, ?_⟩
        have hne : x.1 ≠ i := by
          rcases List.mem_append.1 hx with h | h
          · have := hlow x h; omega
          · have := hhigh x h; omega
        rw [getD_set_ne true (Ne.symm hne)]
        exact h5
      · intro j hj hl
        by_cases hji : j = i
        · subst hji
          have : j < listed.size := by rw [hsz]; exact hj
          simp [this] at hl
        · rw [getD_set_ne false (Ne.symm hji)] at hl
          obtain ⟨o, ho⟩ := h2 j hj hl
          refine ⟨o, ?_⟩
          rcases List.mem_append.1 ho with h | h
          · exact List.mem_append_left _ h
          · rcases List.mem_cons.1 h with h | h
            · cases h; exact absurd rfl hji
            · exact List.mem_append_right _ h
      · refine List.pairwise_append.2 ⟨hpair.1, (List.pairwise_cons.1 hpair.2.1).2, fun x hx y hy => ?_⟩
        have := hlow x hx
        have := hhigh y hy
        omega
      · intro k o ho hl e he hb
        by_cases hki : k = i
        · subst hki
          rw [hoi] at ho
          cases ho
          exact getD_set_true (hall e he hb)
        · rw [getD_set_ne false (Ne.symm hki)] at hl
          exact getD_set_true (h3 k o ho hl e he hb)

theorem exists_min {P : Nat → Prop} (h : ∃ n, P n) : ∃ n, P n ∧ ∀ m, P m → n ≤ m := by
  obtain ⟨n, hn⟩ := h
  induction n using Nat.strongRecOn with
  | _ n ih =>
    by_cases hx : ∃ m, m < n ∧ P m
    · obtain ⟨m, hm, hp⟩ := hx
      exact ih m hm hp
    · exact ⟨n, hn, fun m hm => Nat.le_of_not_lt fun hlt => hx ⟨m, hlt, hm⟩⟩

open Classical in
/-- The smallest number of a kind. -/
noncomputable def sInfN (P : Nat → Prop) : Nat := if h : ∃ n, P n then Classical.choose (exists_min h) else 0
theorem sInfN_spec {P : Nat → Prop} (h : ∃ n, P n) : P (sInfN P) := by
  unfold sInfN
  rw [dif_pos h]
  exact (Classical.choose_spec (exists_min h)).1
theorem sInfN_le {P : Nat → Prop} {n : Nat} (h : P n) : sInfN P ≤ n := by
  unfold sInfN
  rw [dif_pos ⟨n, h⟩]
  exact (Classical.choose_spec (exists_min ⟨n, h⟩)).2 n h

theorem pairsOK_mono {pr pr' : Pairs} (h : ∀ j x i o, pr j x i o = true → pr' j x i o = true) {ms : List Nat} {i : Nat} {o : Oper} : ∀ (xs : List Oper) (j : Nat), pairsOK pr ms i o xs j = true → pairsOK pr' ms i o xs j = true
  | [], _, _ => rfl
  | x :: xs, j, e => by
    simp only [pairsOK, Bool.and_eq_true, Bool.or_eq_true] at e ⊢
    exact ⟨e.1.imp id fun e => e.imp id (h _ _ _ _), pairsOK_mono h xs _ e.2⟩
theorem allOK_mono {pr pr' : Pairs} (h : ∀ j x i o, pr j x i o = true → pr' j x i o = true) {l : List Oper} {ms : List Nat} : ∀ (os : List Oper) (i : Nat), allOK pr l ms os i = true → allOK pr' l ms os i = true
  | [], _, _ => rfl
  | o :: os, i, e => by
    simp only [allOK, Bool.and_eq_true] at e ⊢
    exact ⟨e.1, pairsOK_mono h _ _ e.2.1, allOK_mono h os _ e.2.2⟩
theorem drawD_of {ops : Array Oper} {E : Env} (h : drawOK cfg cur ops = true) : drawD cfg cur ops E = true :=
  allOK_mono (fun j x i o e => by rw [e]; rfl) _ _ h

/-- **The evaluator is right**: whatever it answers, the machine does. -/
theorem exec_sound (hC : CfgOK cfg drawOK) : ∀ k, XOK cfg drawOK (exec cfg k) := by
  intro k
  induction k using Nat.strongRecOn with
  | _ k ihk =>
  cases k with
  | zero => intro cur c s e s' _ h; simp [exec] at h
  | succ k =>
    have ih := ihk k (by omega)
    intro cur c s e s' hok h O0 ι a w hR
    cases c with
    | skip =>
      simp only [exec] at h
      cases h
      exact wp_skip ⟨rfl, ι, hR, .refl⟩
    | label l =>
      simp only [exec] at h
      cases h
      exact wp_label ⟨rfl, ι, hR, .refl⟩
    | region id ops d =>
      simp only [exec] at h
      split at h
      rotate_left
      · cases h
      rename_i s1 hrun
      have hdraw : d = true → drawD cfg cur ops s1.env = true := by
        intro hd
        subst hd
        cases hbad : cfg.bad cur id with
        | true =>
          rw [hbad] at h
          simp only [Bool.and_self] at h
          split at h
          · assumption
          · cases h
        | false =>
          simp only [codeOK, hbad, Bool.not_true, Bool.false_or] at hok
          exact drawD_of hok
      have he : (Ex.normal, s1) = (e, s') := by
        split at h
        · split at h
          · exact Option.some.inj h
          · cases h
        · exact Option.some.inj h
      cases he
      have hR1 : Rel cfg O0 ι { s with m := s.m + ops.size } a w := ⟨hR.inv, hR.env, hR.size, hR.sz, hR.defers⟩
      cases d with
      | false =>
        refine wp_region ?_
        have := runOps_sound (Q := fun ex a' w' => ex = Ex.normal.conv ∧ ∃ ι', Rel cfg O0 ι' s' a' w' ∧ Step ι s.H w ι' s'.H w') hC ih ops.toList 0 hR1 (by simp) hrun (fun a' w' ι' h1 h2 => ⟨rfl, ι', h1, h2⟩)
        rw [List.range_eq_range', ← Array.length_toList]
        exact this
      | true =>
        have hok : drawD cfg cur ops s'.env = true := hdraw rfl
        refine wp_region_any hC.mixed ?_
        have hg : Grown w { w with drawn := w.drawn + 1 } := ⟨rfl, rfl, rfl, Nat.le_refl _, fun _ _ => rfl⟩
        have hR2 : Rel cfg O0 ι { s with m := s.m + ops.size } a { w with drawn := w.drawn + 1 } := ⟨hR.inv.grown hg, fun t => V.mono hg.ext _ _ (hR.env t), hR.size, hR.sz, hR.defers⟩
        rw [runL_of_ops] at hrun
        have hlen : ((List.range' 0 ops.toList.length).zip ops.toList).length ≤ ops.size := by simp
        refine wpAny_runL hC ih hok ops.size _ (Array.replicate ops.size false) hlen (by simp) ?_ ?_ ?_ ?_ hR2 hrun (fun a' w' ι' h1 h2 => ⟨rfl, ι', h1, hg.step.trans h2⟩)
        · intro x hx
          obtain ⟨n, hn⟩ := List.mem_iff_getElem?.1 hx
          rw [List.getElem?_zip_eq_some] at hn
          obtain ⟨h1, h2⟩ := hn
          have hx1 : x.1 = n := by
            rw [List.getElem?_range' (List.getElem?_eq_some_iff.1 h2).1] at h1
            simp at h1
            omega
          rw [hx1]
          have h3 : ops[n]? = some x.2 := by simpa using h2
          refine ⟨h3, ?_⟩
          have := (Array.getElem?_eq_some_iff.1 h3).1
          simp [this]
        · intro j hj _
          refine ⟨ops[j], List.mem_iff_getElem?.2 ⟨j, ?_⟩⟩
          rw [List.getElem?_zip_eq_some]
          refine ⟨by simp [hj], by simp [hj]⟩
        · have : ((List.range' 0 ops.toList.length).zip ops.toList).map (·.1) = List.range' 0 ops.toList.length := by
            rw [List.map_fst_zip]
            simp
          have hpw : (List.range' 0 ops.toList.length).Pairwise (· < ·) := List.pairwise_lt_range'
          rw [← this, List.pairwise_map] at hpw
          exact hpw
        · intro k o ho hl
          have hlt := (Array.getElem?_eq_some_iff.1 ho).1
          simp [hlt] at hl
    | seq x y =>
      simp only [codeOK, Bool.and_eq_true] at hok
      simp only [exec] at h
      refine wp_seq (Code.wp_mono (Q := fun ex a' w' => ∃ e1 s1, exec cfg k cur x s = some (e1, s1) ∧ ex = e1.conv ∧ ∃ ι', Rel cfg O0 ι' s1 a' w' ∧ Step ι s.H w ι' s1.H w') ?_ ?_)
      · rintro ex a' w' ⟨e1, s1, hx, rfl, ι', h1, h2⟩
        rw [hx] at h
        cases e1 with
        | normal =>
          simp only at h
          refine Code.wp_mono ?_ (ih cur y s1 e s' hok.2 h O0 ι' a' w' h1)
          rintro ex a2 w2 ⟨rfl, ι2, h3, h4⟩
          exact ⟨rfl, ι2, h3, h2.trans h4⟩
        | exit id => cases h; exact ⟨rfl, ι', h1, h2⟩
        | ret => cases h; exact ⟨rfl, ι', h1, h2⟩
      · cases hx : exec cfg k cur x s with
        | none => rw [hx] at h; cases h
        | some r =>
          obtain ⟨e1, s1⟩ := r
          refine Code.wp_mono ?_ (ih cur x s e1 s1 hok.1 hx O0 ι a w hR)
          rintro ex a' w' ⟨rfl, ι', h1, h2⟩
          exact ⟨e1, s1, rfl, rfl, ι', h1, h2⟩
    | cond c x y =>
      simp only [codeOK, Bool.and_eq_true] at hok
      simp only [exec] at h
      have hcond : ∀ b, condA cfg s c = some b → a.eval c = .bool b := by
        intro b hb
        unfold condA at hb
        split at hb <;> cases hb
        rename_i hc
        exact V.lit_iff.1 (evO_sound hR c _ hc)
      split at h
      · rename_i hb
        refine wp_cond (hcond _ hb) ?_
        exact ih cur x s e s' hok.1 h O0 ι a w hR
      · rename_i hb
        refine wp_cond (hcond _ hb) ?_
        exact ih cur y s e s' hok.2 h O0 ι a w hR
      · cases h
    | block id b =>
      simp only [codeOK] at hok
      simp only [exec] at h
      refine wp_block ?_
      cases hx : exec cfg k cur b s with
      | none => rw [hx] at h; cases h
      | some r =>
        obtain ⟨e1, s1⟩ := r
        rw [hx] at h
        refine Code.wp_mono ?_ (ih cur b s e1 s1 hok hx O0 ι a w hR)
        rintro ex a' w' ⟨rfl, ι', h1, h2⟩
        cases e1 with
        | normal => cases h; exact ⟨rfl, ι', h1, h2⟩
        | ret => cases h; exact ⟨rfl, ι', h1, h2⟩
        | exit id' =>
          simp only at h
          simp only [Ex.conv, Exit.inBlock]
          split at h
          · rename_i hid
            cases h
            rw [if_pos hid]
            exact ⟨rfl, ι', h1, h2⟩
          · rename_i hid
            cases h
            rw [if_neg hid]
            exact ⟨rfl, ι', h1, h2⟩
    | loop b =>
      simp only [codeOK] at hok
      -- the rounds that are still to come
      refine wp_loop (fun a' w' => ∃ n s1 ι', n ≤ k + 1 ∧ exec cfg n cur (.loop b) s1 = some (e, s') ∧ Rel cfg O0 ι' s1 a' w' ∧ Step ι s.H w ι' s1.H w')
        (fun a' w' => sInfN fun n => ∃ s1 ι', n ≤ k + 1 ∧ exec cfg n cur (.loop b) s1 = some (e, s') ∧ Rel cfg O0 ι' s1 a' w' ∧ Step ι s.H w ι' s1.H w') ⟨k + 1, s, ι, Nat.le_refl _, h, hR, .refl⟩ ?_
      intro a1 w1 hex
      obtain ⟨s1, ι1, hn, hrun, hR1, hS1⟩ := sInfN_spec hex
      generalize hN : (sInfN fun n => ∃ s1 ι', n ≤ k + 1 ∧ exec cfg n cur (.loop b) s1 = some (e, s') ∧ Rel cfg O0 ι' s1 a1 w1 ∧ Step ι s.H w ι' s1.H w1) = N at hn hrun
      cases N with
      | zero => simp [exec] at hrun
      | succ N =>
        simp only [exec] at hrun
        cases hx : exec cfg N cur b s1 with
        | none => rw [hx] at hrun; cases hrun
        | some r =>
          obtain ⟨e2, s2⟩ := r
          rw [hx] at hrun
          have hNk : XOK cfg drawOK (exec cfg N) := ihk N (by omega)
          refine Code.wp_mono ?_ (hNk cur b s1 e2 s2 hok hx O0 ι1 a1 w1 hR1)
          rintro ex a' w' ⟨rfl, ι', h1, h2⟩
          cases e2 with
          | normal =>
            have hP : ∃ s1 ι', N ≤ k + 1 ∧ exec cfg N cur (.loop b) s1 = some (e, s') ∧ Rel cfg O0 ι' s1 a' w' ∧ Step ι s.H w ι' s1.H w' := ⟨s2, ι', by omega, hrun, h1, hS1.trans h2⟩
            refine ⟨⟨N, hP⟩, ?_⟩
            have := sInfN_le (P := fun n => ∃ s1 ι', n ≤ k + 1 ∧ exec cfg n cur (.loop b) s1 = some (e, s') ∧ Rel cfg O0 ι' s1 a' w' ∧ Step ι s.H w ι' s1.H w') hP
            omega
          | exit id => cases hrun; exact ⟨rfl, ι', h1, hS1.trans h2⟩
          | ret => cases hrun; exact ⟨rfl, ι', h1, hS1.trans h2⟩
    | exit id =>
      simp only [exec] at h
      cases h
      exact wp_exit ⟨rfl, ι, hR, .refl⟩
    | ret =>
      simp only [exec] at h
      cases h
      exact wp_ret ⟨rfl, ι, hR, .refl⟩
    | _ => simp [exec] at h
end
end Go.Proofs.YtddaogebacigbaaGreatDoor.RV
