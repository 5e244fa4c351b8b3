/- Symbolic runs of functions by the evaluator: the rules (SvH, SvI, SvJ, SvN, SvR, SvMathA). Conditions: none. -/
import Derived.Test.YtddaogebacigbaaGreatDoorSvQ
import Derived.Test.YtddaogebacigbaaGreatDoorRvU
import Derived.Test.YtddaogebacigbaaGreatDoorRvQ
import Derived.Deep.Slices
import Derived.ChangeSame
import Derived.ChangeArms
import Derived.Carry
import Derived.SizedLaws
section
set_option linter.unusedVariables false
namespace Go.Proofs.YtddaogebacigbaaGreatDoor.RV
variable {cfg : Cfg} {cur : FuncId} {sz : Nat} {L : Fr} {M : Mem} {ops : Array Oper} {n i : Nat} {os : List Oper} {Q : St → Prop} {R : Ex → St → Prop} {ty : TypeId} {ps : String} {af : Array Edge}

/-! ### Numbers of blocks: none comes up but behind those that were given out -/
def Grow (H : Heap) (m : Nat) (H' : Heap) (m' : Nat) : Prop := m ≤ m' ∧ (∀ id, id < m → H.get id = none → H'.get id = none) ∧ ((∀ id, m ≤ id → H.get id = none) → ∀ id, m' ≤ id → H'.get id = none)
theorem Grow.refl (H : Heap) (m : Nat) : Grow H m H m := ⟨Nat.le_refl _, fun _ _ h => h, fun h => h⟩
theorem Grow.trans {H H' H'' : Heap} {m m' m'' : Nat} (a : Grow H m H' m') (b : Grow H' m' H'' m'') : Grow H m H'' m'' :=
  ⟨Nat.le_trans a.1 b.1, fun id hid h => b.2.1 id (Nat.lt_of_lt_of_le hid a.1) (a.2.1 id hid h), fun h => b.2.2 (a.2.2 h)⟩
def XG (X : Run) : Prop := ∀ cur c s e s', X cur c s = some (e, s') → Grow s.H s.m s'.H s'.m
theorem obj_some {H : Heap} {id ver : Nat} {o : HObj} (h : obj H id ver = some o) : H.get id ≠ none := by
  intro e
  unfold obj at h
  rw [e] at h
  cases h
def DOk (H : Heap) (fr : Nat) (d : Delta) : Prop := ∀ e ∈ d, e.1 = fr ∨ H.get e.1 ≠ none
theorem storeA_ids {P : Program} {H : Heap} {t : TypeId} {p v : PV} {d : Delta} {fr : Nat} (h : storeA P H t p v = some d) : DOk H fr d := by
  unfold storeA at h
  split at h
  · rename_i id ver idx off
    split at h
    · rename_i s l n ho _
      split at h
      · split at h
        · split at h
          · cases h; intro e he; rw [List.mem_singleton.1 he]; exact .inr (obj_some ho)
          · split at h
            · cases h
            · split at h <;> cases h
              intro e he; rw [List.mem_singleton.1 he]; exact .inr (obj_some ho)
        · cases h
      · cases h
    · cases h
  · cases h
theorem appendA_ids {P : Program} {H : Heap} {t : TypeId} {p v q : PV} {d : Delta} {fr : Nat} (h : appendA P H t fr p v = some (q, d)) : DOk H fr d := by
  unfold appendA at h
  split at h
  · split at h
    · split at h
      · split at h
        · split at h
          · cases h; intro e he; cases he
          · split at h <;> cases h
            intro e he; rw [List.mem_singleton.1 he]; exact .inl rfl
        · split at h
          · rename_i ho
            split at h
            · split at h
              · cases h; intro e he; cases he
              · split at h
                · split at h
                  · cases h; intro e he; rw [List.mem_singleton.1 he]; exact .inl rfl
                  · split at h <;> cases h
                    intro e he; rw [List.mem_singleton.1 he]; exact .inr (obj_some ho)
                · split at h <;> cases h
                  intro e he; rw [List.mem_singleton.1 he]; exact .inr (obj_some ho)
            · cases h
          · cases h
        · split at h
          · split at h
            · cases h; intro e he; cases he
            · split at h
              · split at h <;> cases h
                intro e he; rw [List.mem_singleton.1 he]; exact .inl rfl
              · cases h
          · cases h
        · cases h
      · cases h
    · cases h
  · cases h
theorem copyA_ids {P : Program} {H : Heap} {t : TypeId} {p v q : PV} {d : Delta} {fr : Nat} (h : copyA P H t p v = some (q, d)) : DOk H fr d := by
  unfold copyA at h
  split at h
  · split at h
    · split at h
      · rename_i ho
        split at h <;> cases h
        intro e he; rw [List.mem_singleton.1 he]; exact .inr (obj_some ho)
      · cases h
    · cases h; intro e he; cases he
    · cases h; intro e he; cases he
    · cases h
  · cases h
theorem updateA_ids {P : Program} {H : Heap} {t : TypeId} {p v : PV} {k : Value} {d : Delta} {fr : Nat} (h : updateA P H t p k v = some d) : DOk H fr d := by
  unfold updateA at h
  split at h
  · split at h
    · split at h
      · rename_i ho
        split at h
        · split at h
          · split at h
            · split at h <;> cases h
              intro e he; rw [List.mem_singleton.1 he]; exact .inr (obj_some ho)
            · cases h
          · cases h
            intro e he; rw [List.mem_singleton.1 he]; exact .inr (obj_some ho)
          · cases h
        · cases h
      · cases h
    · cases h
  · cases h
theorem aopWrite_ids {env : Env} {H : Heap} {o : Oper} {fr : Nat} {p : PV} {d : Delta} (h : aopWrite cfg env H o fr = some (p, d)) : DOk H fr d := by
  unfold aopWrite at h
  split at h
  · split at h
    · split at h <;> cases h
      exact storeA_ids (by assumption)
    · cases h
  · split at h
    · split at h
      · split at h
        · exact appendA_ids h
        · exact appendA_ids h
        · cases h
      · cases h
    · split at h
      · split at h
        · exact copyA_ids h
        · cases h
      · cases h
    · cases h
  · split at h
    · split at h
      · split at h
        · cases h; exact updateA_ids (by assumption)
        · cases h
      · cases h
    · cases h
  · split at h
    · split at h
      · split at h
        · cases h; exact updateA_ids (by assumption)
        · cases h
      · cases h
    · cases h
  · split at h
    · split at h
      · rename_i ho
        dsimp only at h
        split at h
        · cases h; intro e he; rw [List.mem_singleton.1 he]; exact .inr (obj_some ho)
        · cases h; intro e he; cases he
      · cases h
    · split at h
      · rename_i ho
        split at h
        · split at h
          · cases h; intro e he; cases he
          · cases h; intro e he; rw [List.mem_singleton.1 he]; exact .inr (obj_some ho)
          · cases h
        · cases h
      · cases h
    · cases h
  · split at h
    · split at h
      · cases h; intro e he; rw [List.mem_singleton.1 he]; exact .inl rfl
      · cases h
    · cases h
  · cases h
theorem applyD_none2 {H : Heap} {fr : Nat} : ∀ (d : Delta), (∀ e ∈ d, e.1 = fr ∨ H.get e.1 ≠ none) → ∀ (H' : Heap), (∀ id, H.get id ≠ none → H'.get id ≠ none) → ∀ id, id ≠ fr → H.get id = none → H'.get id = none → (applyD H' d).get id = none
  | [], _, H', _, id, _, _, h => h
  | (k, v, o) :: d, hd, H', hH, id, hne, h0, h => by
    rw [applyD_cons]
    refine applyD_none2 d (fun e he => hd e (by simp [he])) _ (fun id' h' => ?_) id hne h0 ?_
    · rw [put_get]
      split
      · simp
      · exact hH id' h'
    · rw [put_get, if_neg (fun e => ?_)]
      · exact h
      · rcases hd (k, v, o) (by simp) with hk | hk
        · exact hne (e.trans hk)
        · exact hk (e ▸ h0)
theorem callA_grow {X : Run} (hX : XG X) {f : FuncId} {args : List PV} {H H' : Heap} {m m' : Nat} {p : PV} (h : callA cfg X f args H m = some (p, H', m')) : Grow H m H' m' := by
  unfold callA at h
  split at h
  · cases h
  · split at h
    · cases h
    · split at h
      · cases h
      · split at h
        · split at h
          · cases h
          · rename_i e s _ hex
            split at h <;> cases h
            exact hX _ _ _ _ _ hex
          · cases h
        · cases h
/-- What one operation does to the numbers. -/
def Grow1 (fr : Nat) (H : Heap) (m : Nat) (H' : Heap) (m' : Nat) : Prop := m ≤ m' ∧ (∀ id, id ≠ fr → id < m → H.get id = none → H'.get id = none) ∧ (fr < m → (∀ id, m ≤ id → H.get id = none) → ∀ id, m' ≤ id → H'.get id = none)
theorem Grow.one {fr : Nat} {H H' : Heap} {m m' : Nat} (h : Grow H m H' m') : Grow1 fr H m H' m' := ⟨h.1, fun id _ => h.2.1 id, fun _ => h.2.2⟩
theorem effA_grow {X : Run} (hX : XG X) {base : Nat} {o : Oper} {env : Env} {H H' : Heap} {m m' : Nat} {p : PV} (h : effA cfg X cur ops base i o env H m = some (p, H', m')) : Grow1 (base + i) H m H' m' := by
  unfold effA at h
  split at h
  · cases h; exact (Grow.refl _ _).one
  · split at h
    · split at h <;> cases h
      exact (Grow.refl _ _).one
    · split at h
      · split at h <;> cases h
        refine ⟨Nat.le_refl _, fun id hne _ h0 => by rw [put_get, if_neg hne]; exact h0, fun hf h0 id hid => by rw [put_get, if_neg (by omega)]; exact h0 id hid⟩
      · cases h
    · split at h <;> cases h
      exact (Grow.refl _ _).one
    · split at h <;> cases h
      rename_i hw
      unfold effWrite at hw
      split at hw
      · split at hw <;> cases hw
        rename_i hd
        have hids := aopWrite_ids hd
        exact ⟨Nat.le_refl _, fun id hne _ h0 => applyD_none2 _ hids _ (fun _ h => h) id hne h0 h0, fun hf h0 id hid => applyD_none2 _ hids _ (fun _ h => h) id (by omega) (h0 id hid) (h0 id hid)⟩
      · cases hw
    · unfold effWild at h
      split at h
      · split at h
        · split at h
          · split at h
            · exact (callA_grow hX h).one
            · split at h <;> cases h
              exact (Grow.refl _ _).one
          · cases h
        · cases h
      · cases h
theorem stepA_grow {X : Run} (hX : XG X) {base : Nat} {o : Oper} {s s' : St} (h : stepA cfg X cur ops base i o s = some s') : Grow1 (base + i) s.H s.m s'.H s'.m := by
  unfold stepA at h
  split at h
  · rename_i he
    have := effA_grow hX he
    unfold setD at h
    split at h
    · split at h <;> cases h
      exact this
    · cases h
      exact this
  · cases h
theorem runOps_grow {X : Run} (hX : XG X) {base n : Nat} : ∀ (l : List Oper) (i : Nat) (s s' : St), i + l.length ≤ n → base + n ≤ s.m → runOps cfg X cur ops base l i s = some s' →
    s.m ≤ s'.m ∧ (∀ id, id < s.m → ¬ (base ≤ id ∧ id < base + n) → s.H.get id = none → s'.H.get id = none) ∧ ((∀ id, s.m ≤ id → s.H.get id = none) → ∀ id, s'.m ≤ id → s'.H.get id = none)
  | [], i, s, s', _, _, h => by simp only [runOps] at h; cases h; exact ⟨Nat.le_refl _, fun _ _ _ h => h, fun h => h⟩
  | o :: os, i, s, s', hi, hb, h => by
    simp only [List.length_cons] at hi
    unfold runOps at h
    split at h
    · rename_i s1 hs
      obtain ⟨a1, a2, a3⟩ := stepA_grow hX hs
      obtain ⟨b1, b2, b3⟩ := runOps_grow (n := n) hX os (i + 1) s1 s' (by omega) (by omega) h
      exact ⟨by omega, fun id hid hn h0 => b2 id (by omega) hn (a2 id (by omega) hid h0), fun h0 => b3 (a3 (by omega) h0)⟩
    · cases h
theorem exec_grow : ∀ k, XG (exec cfg k)
  | 0 => fun _ _ _ _ _ h => by simp [exec] at h
  | k + 1 => by
    have ih : XG (exec cfg k) := exec_grow k
    intro cur c s e s' h
    unfold exec at h
    cases c with
    | skip => cases h; exact .refl _ _
    | label => cases h; exact .refl _ _
    | exit => cases h; exact .refl _ _
    | ret => cases h; exact .refl _ _
    | region id ops d =>
      dsimp only at h
      split at h
      · rename_i s1 hr
        have hg := runOps_grow (n := ops.size) ih ops.toList 0 _ _ (by simp) (Nat.le_refl _) hr
        have hs : s' = s1 := by
          split at h
          · split at h <;> cases h
            rfl
          · cases h; rfl
        subst hs
        obtain ⟨a1, a2, a3⟩ := hg
        dsimp only at a1 a2 a3
        exact ⟨by omega, fun id hid h0 => a2 id (by omega) (by omega) h0, fun h0 => a3 fun id hid => h0 id (by omega)⟩
      · cases h
    | seq a b =>
      dsimp only at h
      split at h
      · rename_i hx
        exact (ih _ _ _ _ _ hx).trans (ih _ _ _ _ _ h)
      · exact ih _ _ _ _ _ h
    | cond c a b =>
      dsimp only at h
      split at h
      · exact ih _ _ _ _ _ h
      · exact ih _ _ _ _ _ h
      · cases h
    | block id b =>
      dsimp only at h
      split at h
      · rename_i hx
        have := ih _ _ _ _ _ hx
        split at h <;> cases h <;> exact this
      · exact ih _ _ _ _ _ h
    | loop b =>
      dsimp only at h
      split at h
      · rename_i hx
        exact (ih _ _ _ _ _ hx).trans (ih _ _ _ _ _ h)
      · exact ih _ _ _ _ _ h
    | _ => cases h
/-- A call in the caller's memory: of what it knows of it. -/
def Fm0 (cfg : Cfg) (g : FuncId) (args : List PV) (M : Mem) (P : PV → Mem → Prop) : Prop :=
  ∀ H m, CvH H M → (∀ id, m ≤ id → H.get id = none) → Fm cfg g args H m fun p H' m' => ∃ M', CvH H' M' ∧ P p M'
theorem Rs.callM {d : Option Tmp} {f : Operand} {g : FuncId} {fs cs : List PV} {xs : Array Operand} {ats : Array TypeId} {args : List PV} {P : PV → Mem → Prop} (hlt : (match d with | some d => Nat.blt d sz | none => true) = true) (hc : cls cfg cur ⟨d, .call ⟨.value f, xs, ats⟩, ty, ps, af, none⟩ = .wild) (hf : evl cfg L f = some (.clo g fs cs)) (hm : cfg.mode g = 2) (hx : evls cfg L xs.toList = some args) (hF : Fm0 cfg g (fs ++ (args ++ cs)) M P)
    (k : ∀ p M', P p M' → Rs cfg cur ops n sz os (i + 1) (putO d p L) M' Q) : Rs cfg cur ops n sz (⟨d, .call ⟨.value f, xs, ats⟩, ty, ps, af, none⟩ :: os) i L M Q := by
  intro base env H m hn hmm h1 h2 h3
  simp only [List.length_cons] at hn
  obtain ⟨kk, p, H', m', hcall, M', hcv, hP⟩ := hF H m h2 fun id hid => h3 id (.inr hid)
  obtain ⟨g1, g2, g3⟩ := callA_grow (exec_grow kk) hcall
  have he : effA cfg (exec cfg kk) cur ops base i ⟨d, .call ⟨.value f, xs, ats⟩, ty, ps, af, none⟩ env H m = some (p, H', m') := by
    unfold effA wantA
    dsimp only
    rw [hc]
    unfold effWild
    dsimp only
    rw [evl_ok h1 hf, evls_ok h1 hx]
    dsimp only
    rw [hm]
    exact hcall
  have hfre : Fre H' (base + (i + 1)) (base + n) m' := fun id hid => by
    rcases hid with hid | hid
    · exact g2 id (by omega) (h3 id (.inl (by omega)))
    · exact g3 (fun id hid => h3 id (.inr hid)) id hid
  cases d with
  | none =>
    refine Ro.stepX (k := kk) (s' := ⟨env, H', m', sz⟩) ?_ (k p M' hP base env H' m' (by omega) (by omega) h1 hcv hfre)
    unfold stepA
    dsimp only
    rw [he]
    rfl
  | some d =>
    have hlt : d < sz := Nat.le_of_ble_eq_true hlt
    refine Ro.stepX (k := kk) (s' := ⟨env.put d p, H', m', sz⟩) ?_ (k p M' hP base _ H' m' (by omega) (by omega) (h1.put d p) hcv hfre)
    unfold stepA
    dsimp only
    rw [he]
    dsimp only
    unfold setD
    dsimp only
    rw [if_pos hlt]
/-- A call of a function in the caller's memory. -/
theorem Rs.call2 {d : Tmp} {g : FuncId} {xs : Array Operand} {ats : Array TypeId} {args : List PV} {P : PV → Mem → Prop} (hlt : Nat.blt d sz = true) (hm : cfg.mode g = 2) (hx : evls cfg L xs.toList = some args) (hF : Fm0 cfg g args M P)
    (k : ∀ p M', P p M' → Rs cfg cur ops n sz os (i + 1) ((d, p) :: L) M' Q) : Rs cfg cur ops n sz (⟨some d, .call ⟨.value (.func g), xs, ats⟩, ty, ps, af, none⟩ :: os) i L M Q :=
  Rs.callM (fs := []) (cs := []) hlt (by unfold cls; dsimp only; rw [hm]; rfl) rfl hm hx (by rw [List.append_nil]; exact hF) k
theorem Fm0.go {f : FuncId} {fn : Func} {c : Code} {args : List PV} {P : PV → Mem → Prop} (hf : cfg.P.funcs[f]? = some fn) (hc : fn.body = some c) (hs : cfg.fns f = true) (hn : (Nat.ble args.length fn.ntmps && Nat.ble fn.ntmps 8000) = true) (hL : num 0 args = L)
    (h : Ps fn.ntmps L M (fun s => Ev cfg f c s (FinM cfg fn fun p H' m' => ∃ M', CvH H' M' ∧ P p M'))) : Fm0 cfg f args M P :=
  fun H m h1 h2 => Fm.go hf hc hs hn h1 h2 hL h
theorem Ps.finM0 {fn : Func} {P : PV → Mem → Prop} {e : Ex} {l : List PV} (he : isEnd e = true) (hr : ResR cfg L M fn.results.toList l) (hq : P (one l) M) : Ps sz L M (FinM cfg fn (fun p H' m' => ∃ M', CvH H' M' ∧ P p M') e) :=
  Ps.finMR he hr fun H m h1 h2 => ⟨M, h1, hq⟩
theorem storeB_lit {P : Program} {t : TypeId} {l : List PV} {ix : Nat} {e v : Value} (hs : szO P t = some 1) (he : l[ix]? = some (.lit e)) (h1 : (PV.lit e).cells.length = 1) (h2 : (PV.lit v).cells = [.lit v]) (h3 : (PV.lit v).scalar = true) : storeB P t l ix 0 (.lit v) = some (l.set ix (.lit v)) := by
  unfold storeB
  rw [hs]
  dsimp only
  rw [he]
  dsimp only
  rw [if_pos ⟨by rw [h2]; rfl, by omega, by rw [h2]; simp [scalars, h3]⟩]
  rw [if_pos ⟨rfl, h1⟩]
theorem mid_at {α : Type} (A B : List α) (x : α) {j : Nat} (h : A.length = j) : (A ++ x :: B)[j]? = some x := by subst h; simp
theorem mid_set {α : Type} (A B : List α) (x y : α) {j : Nat} (h : A.length = j) : (A ++ x :: B).set j y = A ++ y :: B := by subst h; simp
end Go.Proofs.YtddaogebacigbaaGreatDoor.RV
end
section
set_option linter.unusedVariables false
namespace Go.Proofs.YtddaogebacigbaaGreatDoor.RV
variable {cfg : Cfg} {cur : FuncId} {sz : Nat} {L : Fr} {M : Mem} {ops : Array Oper} {n i : Nat} {os : List Oper} {Q : St → Prop} {R : Ex → St → Prop} {ty : TypeId} {ps : String} {af : Array Edge}
/-! ### Slices that grow from a full one -/
def fP (s : Nat) (b : Option (Nat × Nat)) (l : List PV) : PV := match b with | none => .dsl s l (some l.length) | some (id, v) => .own id v s 0 l.length none
def fM (s : Nat) (b : Option (Nat × Nat)) (l : List PV) : Mem := match b with | none => [] | some (id, v) => [(id, v, .blk s l true)]
theorem Rs.appendF {d : Tmp} {x y : Operand} {t t2 e : TypeId} {s : Nat} {a : Option (Nat × Nat)} {l : List PV} {x0 : PV} {c : Option Nat} {inf : TypeInfo} {z : PV} (M1 : Mem) {M0 : Mem} (hlt : Nat.blt d sz = true) (hu : cfg.P.underlying t = some (.slice e)) (hu2 : ∃ e2, cfg.P.underlying t2 = some (.slice e2)) (hi : cfg.P.info? e = some inf) (hsz : inf.size = s) (hz : zeroO cfg.P e = some z) (hzl : z.cells.length = s) (hs0 : 0 < s)
    (hx : evl cfg L x = some (fP s a l)) (hy : evl cfg L y = some (.dsl s [x0] c)) (hM : M = M1 ++ (fM s a l ++ M0)) (h1 : sizesAre s [x0] = true) (h2 : scalarsE [x0] = true) (hb : (l.length + 1) * inf.bytes ≤ 2 ^ 40 ∧ l.length + 1 ≤ 2 ^ 40)
    (k : ∀ id v, Rs cfg cur ops n sz os (i + 1) ((d, .own id v s 0 (l ++ [x0]).length none) :: L) (M1 ++ ((id, v, .blk s (l ++ [x0]) true) :: M0)) Q) : Rs cfg cur ops n sz (⟨some d, .call ⟨.builtin .append, #[x, y], #[t, t2]⟩, ty, ps, af, none⟩ :: os) i L M Q := by
  obtain ⟨e2, hu2⟩ := hu2
  have main : ∀ (env : Env) (H : Heap) (fr : Nat), Cv env L → CvH H M → H.get fr = none → ∃ id v δ, aopWrite cfg env H ⟨some d, .call ⟨.builtin .append, #[x, y], #[t, t2]⟩, ty, ps, af, none⟩ fr = some (.own id v s 0 (l ++ [x0]).length none, δ) ∧ CvH (applyD H δ) (M1 ++ ((id, v, .blk s (l ++ [x0]) true) :: M0)) ∧ ∀ id, id ≠ fr → H.get id = none → (applyD H δ).get id = none := by
    intro env H fr hE hH hf
    have hw : ∀ r, appendA cfg.P H e fr (fP s a l) (.dsl s [x0] c) = some r → aopWrite cfg env H ⟨some d, .call ⟨.builtin .append, #[x, y], #[t, t2]⟩, ty, ps, af, none⟩ fr = some r := by
      intro r hr
      unfold aopWrite
      dsimp only
      rw [hu, hu2, evl_ok hE hx, evl_ok hE hy]
      exact hr
    cases a with
    | none =>
      have hM' : M = M1 ++ M0 := hM
      subst hM'
      refine ⟨fr, 0, [(fr, 0, .blk s (l ++ [x0]) true)], hw _ ?_, (hH.new hf 0 _).perm List.perm_middle.symm, ?_⟩
      · unfold appendA fP
        rw [hi, hz]
        simp only [elemsOf, hsz, hzl, hs0, h1, h2, if_true, and_self, List.length_append, List.length_singleton]
        rw [if_pos ⟨trivial, hb.1, hb.2⟩, if_pos (by omega)]
      · intro id hne h
        show (H.put fr _).get id = none
        rw [put_get, if_neg hne]
        exact h
    | some iv =>
      obtain ⟨id, v⟩ := iv
      have hM' : M = M1 ++ (id, v, .blk s l true) :: M0 := hM
      have hj : M[M1.length]? = some (id, v, .blk s l true) := by rw [hM']; simp
      have ho := hH.obj hj
      refine ⟨id, v + 1, [(id, v + 1, .blk s (l ++ [x0]) true)], hw _ ?_, ?_, ?_⟩
      · unfold appendA fP
        rw [hi, hz]
        simp only [elemsOf, hsz, hzl, hs0, h1, h2, if_true, and_self, ho, Nat.zero_add, Nat.le_refl, List.drop_zero, List.take_length, List.length_append, List.length_singleton]
        rw [if_pos (by exact ⟨trivial, trivial, trivial, hb.1, hb.2⟩)]
      · have := hH.set hj (v + 1) (.blk s (l ++ [x0]) true)
        rw [hM'] at this
        simp only [List.set_append_right _ _ (Nat.le_refl _), Nat.sub_self, List.set_cons_zero] at this
        exact this
      · intro i' hne h
        show (H.put id _).get i' = none
        rw [put_get, if_neg (fun e => ?_)]
        · exact h
        · have := hH.2 _ _ _ (List.mem_of_getElem? hj)
          rw [← e, h] at this
          cases this
  intro base env H m hn hm e1 e2' e3
  simp only [List.length_cons] at hn
  obtain ⟨id, v, δ, hw, hcv, hfr⟩ := main env H (base + i) e1 e2' (e3 _ (by omega))
  have hlt' : d < sz := Nat.le_of_ble_eq_true hlt
  refine Ro.step (s' := ⟨env.put d (.own id v s 0 (l ++ [x0]).length none), applyD H δ, m, sz⟩) ?_ (k id v base _ _ m (by omega) hm (e1.put d _) hcv (fun id hid => hfr id (by omega) (e3 id (by omega))))
  unfold stepA effA wantA
  dsimp only
  rw [show cls cfg cur ⟨some d, .call ⟨.builtin .append, #[x, y], #[t, t2]⟩, ty, ps, af, none⟩ = .write from rfl]
  dsimp only
  unfold effWrite
  rw [e3 (base + i) (by omega)]
  dsimp only
  rw [hw]
  dsimp only
  unfold setD
  dsimp only
  rw [if_pos hlt']
theorem Rs.appendF0 {d : Tmp} {x y : Operand} {t t2 e : TypeId} (s bs : Nat) {a : Option (Nat × Nat)} {l : List PV} {x0 : PV} {c : Option Nat} {inf : TypeInfo} {z : PV} {M0 : Mem} (hlt : Nat.blt d sz = true) (hu : cfg.P.underlying t = some (.slice e)) (hu2 : ∃ e2, cfg.P.underlying t2 = some (.slice e2)) (hi : cfg.P.info? e = some inf) (hsz : inf.size = s) (hbs : inf.bytes = bs) (hbb : Nat.ble bs 1000000 = true) (hz : zeroO cfg.P e = some z) (hzl : z.cells.length = s) (hs0 : Nat.blt 0 s = true)
    (hx : evl cfg L x = some (fP s a l)) (hy : evl cfg L y = some (.dsl s [x0] c)) (hM : M = (fM s a l ++ M0)) (h1 : sizesAre s [x0] = true) (h2 : scalarsE [x0] = true) (hb : l.length + 1 ≤ 1000000)
    (k : ∀ id v, Rs cfg cur ops n sz os (i + 1) ((d, .own id v s 0 (l ++ [x0]).length none) :: L) (((id, v, .blk s (l ++ [x0]) true) :: M0)) Q) : Rs cfg cur ops n sz (⟨some d, .call ⟨.builtin .append, #[x, y], #[t, t2]⟩, ty, ps, af, none⟩ :: os) i L M Q :=
  Rs.appendF [] hlt hu hu2 hi hsz hz hzl (Nat.le_of_ble_eq_true hs0) hx hy hM h1 h2 (by
    have h1 := Nat.le_of_ble_eq_true hbb
    rw [hbs]
    have h2 : (l.length + 1) * bs ≤ 1000000 * 1000000 := Nat.mul_le_mul hb h1
    constructor <;> omega) k
theorem Rs.appendF1 {d : Tmp} {x y : Operand} {t t2 e : TypeId} (s bs : Nat) {a : Option (Nat × Nat)} {l : List PV} {x0 : PV} {c : Option Nat} {inf : TypeInfo} {z : PV} {M0 : Mem} {m1 : Nat × Nat × HObj} (hlt : Nat.blt d sz = true) (hu : cfg.P.underlying t = some (.slice e)) (hu2 : ∃ e2, cfg.P.underlying t2 = some (.slice e2)) (hi : cfg.P.info? e = some inf) (hsz : inf.size = s) (hbs : inf.bytes = bs) (hbb : Nat.ble bs 1000000 = true) (hz : zeroO cfg.P e = some z) (hzl : z.cells.length = s) (hs0 : Nat.blt 0 s = true)
    (hx : evl cfg L x = some (fP s a l)) (hy : evl cfg L y = some (.dsl s [x0] c)) (hM : M = m1 :: (fM s a l ++ M0)) (h1 : sizesAre s [x0] = true) (h2 : scalarsE [x0] = true) (hb : l.length + 1 ≤ 1000000)
    (k : ∀ id v, Rs cfg cur ops n sz os (i + 1) ((d, .own id v s 0 (l ++ [x0]).length none) :: L) (m1 :: ((id, v, .blk s (l ++ [x0]) true) :: M0)) Q) : Rs cfg cur ops n sz (⟨some d, .call ⟨.builtin .append, #[x, y], #[t, t2]⟩, ty, ps, af, none⟩ :: os) i L M Q :=
  Rs.appendF [m1] hlt hu hu2 hi hsz hz hzl (Nat.le_of_ble_eq_true hs0) hx hy hM h1 h2 (by
    have h1 := Nat.le_of_ble_eq_true hbb
    rw [hbs]
    have h2 : (l.length + 1) * bs ≤ 1000000 * 1000000 := Nat.mul_le_mul hb h1
    constructor <;> omega) k
theorem Rs.appendF2 {d : Tmp} {x y : Operand} {t t2 e : TypeId} (s bs : Nat) {a : Option (Nat × Nat)} {l : List PV} {x0 : PV} {c : Option Nat} {inf : TypeInfo} {z : PV} {M0 : Mem} {m1 m2 : Nat × Nat × HObj} (hlt : Nat.blt d sz = true) (hu : cfg.P.underlying t = some (.slice e)) (hu2 : ∃ e2, cfg.P.underlying t2 = some (.slice e2)) (hi : cfg.P.info? e = some inf) (hsz : inf.size = s) (hbs : inf.bytes = bs) (hbb : Nat.ble bs 1000000 = true) (hz : zeroO cfg.P e = some z) (hzl : z.cells.length = s) (hs0 : Nat.blt 0 s = true)
    (hx : evl cfg L x = some (fP s a l)) (hy : evl cfg L y = some (.dsl s [x0] c)) (hM : M = m1 :: m2 :: (fM s a l ++ M0)) (h1 : sizesAre s [x0] = true) (h2 : scalarsE [x0] = true) (hb : l.length + 1 ≤ 1000000)
    (k : ∀ id v, Rs cfg cur ops n sz os (i + 1) ((d, .own id v s 0 (l ++ [x0]).length none) :: L) (m1 :: m2 :: ((id, v, .blk s (l ++ [x0]) true) :: M0)) Q) : Rs cfg cur ops n sz (⟨some d, .call ⟨.builtin .append, #[x, y], #[t, t2]⟩, ty, ps, af, none⟩ :: os) i L M Q :=
  Rs.appendF [m1, m2] hlt hu hu2 hi hsz hz hzl (Nat.le_of_ble_eq_true hs0) hx hy hM h1 h2 (by
    have h1 := Nat.le_of_ble_eq_true hbb
    rw [hbs]
    have h2 : (l.length + 1) * bs ≤ 1000000 * 1000000 := Nat.mul_le_mul hb h1
    constructor <;> omega) k
theorem Rs.appendF3 {d : Tmp} {x y : Operand} {t t2 e : TypeId} (s bs : Nat) {a : Option (Nat × Nat)} {l : List PV} {x0 : PV} {c : Option Nat} {inf : TypeInfo} {z : PV} {M0 : Mem} {m1 m2 m3 : Nat × Nat × HObj} (hlt : Nat.blt d sz = true) (hu : cfg.P.underlying t = some (.slice e)) (hu2 : ∃ e2, cfg.P.underlying t2 = some (.slice e2)) (hi : cfg.P.info? e = some inf) (hsz : inf.size = s) (hbs : inf.bytes = bs) (hbb : Nat.ble bs 1000000 = true) (hz : zeroO cfg.P e = some z) (hzl : z.cells.length = s) (hs0 : Nat.blt 0 s = true)
    (hx : evl cfg L x = some (fP s a l)) (hy : evl cfg L y = some (.dsl s [x0] c)) (hM : M = m1 :: m2 :: m3 :: (fM s a l ++ M0)) (h1 : sizesAre s [x0] = true) (h2 : scalarsE [x0] = true) (hb : l.length + 1 ≤ 1000000)
    (k : ∀ id v, Rs cfg cur ops n sz os (i + 1) ((d, .own id v s 0 (l ++ [x0]).length none) :: L) (m1 :: m2 :: m3 :: ((id, v, .blk s (l ++ [x0]) true) :: M0)) Q) : Rs cfg cur ops n sz (⟨some d, .call ⟨.builtin .append, #[x, y], #[t, t2]⟩, ty, ps, af, none⟩ :: os) i L M Q :=
  Rs.appendF [m1, m2, m3] hlt hu hu2 hi hsz hz hzl (Nat.le_of_ble_eq_true hs0) hx hy hM h1 h2 (by
    have h1 := Nat.le_of_ble_eq_true hbb
    rw [hbs]
    have h2 : (l.length + 1) * bs ≤ 1000000 * 1000000 := Nat.mul_le_mul hb h1
    constructor <;> omega) k
theorem Dp.f {H : Heap} {s : Nat} {a : Option (Nat × Nat)} {l : List PV} (hH : CvH H M) (hm : ∀ x ∈ fM s a l, x ∈ M) (hl : ∀ p ∈ l, plainP p = true) (hn : l.length ≤ 90000) : ∃ q, IsSl s l q ∧ Dp 95000 H (fP s a l) q := by
  cases a with
  | none => exact ⟨_, dsl_is, Dp.plain 95000 rfl rfl⟩
  | some iv =>
    obtain ⟨id, v⟩ := iv
    refine ⟨.dsl s l none, dsl_is, fun k hk => ?_⟩
    have ho := hH.g (hm _ (by unfold fM; exact .head _))
    cases k with
    | zero => omega
    | succ k =>
      unfold deepen fP
      dsimp only
      rw [ho]
      dsimp only
      rw [if_pos ⟨rfl, by omega⟩, List.drop_zero, List.take_length, deepenL_id l k (fun p hp k hk => deepen_pl (hl p hp) hk) (by omega)]
theorem Ps.finX {fn : Func} {Q : PV → Prop} {e : Ex} {l : List PV} (he : isEnd e = true) (hr : ResR cfg L M fn.results.toList l) (hd : ∀ H, CvH H M → ∃ q, deepen H fuelD (one l) = some q ∧ Q q) : Ps sz L M (FinQ cfg fn Q e) :=
  fun env H m h1 h2 h3 => by
    obtain ⟨q, hq, hQ⟩ := hd H h2
    exact ⟨he, one l, q, resA_of (hr.ok (s := ⟨env, H, m, sz⟩) h1 h2), hq, hQ⟩
/-- The lesser, the greater of two whole numbers. -/
theorem Rs.min {d : Tmp} {x y : Operand} {ats : Array TypeId} {ik jk : IntKind} {a b : Int} (hlt : Nat.blt d sz = true) (hx : evl cfg L x = some (.lit (.int ik a))) (hy : evl cfg L y = some (.lit (.int jk b))) (k : Rs cfg cur ops n sz os (i + 1) ((d, .lit (.int ik (if b < a then b else a))) :: L) M Q) :
    Rs cfg cur ops n sz (⟨some d, .call ⟨.builtin .min, #[x, y], ats⟩, ty, ps, af, none⟩ :: os) i L M Q := by
  refine Rs.pure rfl rfl hlt rfl rfl (fun env hE => ?_) k
  unfold aopPure
  dsimp only
  refine (lit2 (v := .int ik (if b < a then b else a)) rfl rfl (evl_ok hE hx) rfl (evl_ok hE hy) rfl ?_).trans rfl
  intro ρ h1 h2
  simp only [execOp, resolve, invoke, builtin, bind_pure_comp, List.map_toArray, List.map_cons, List.map_nil, pure_bind]
  show pureRun cfg.P (Builtin.min_ ats ty #[ρ x, ρ y] >>= fun r => Pure.pure (Next.value r)) = _
  rw [h1, h2]
  rfl
theorem Rs.max {d : Tmp} {x y : Operand} {ats : Array TypeId} {ik jk : IntKind} {a b : Int} (hlt : Nat.blt d sz = true) (hx : evl cfg L x = some (.lit (.int ik a))) (hy : evl cfg L y = some (.lit (.int jk b))) (k : Rs cfg cur ops n sz os (i + 1) ((d, .lit (.int ik (if b > a then b else a))) :: L) M Q) :
    Rs cfg cur ops n sz (⟨some d, .call ⟨.builtin .max, #[x, y], ats⟩, ty, ps, af, none⟩ :: os) i L M Q := by
  refine Rs.pure rfl rfl hlt rfl rfl (fun env hE => ?_) k
  unfold aopPure
  dsimp only
  refine (lit2 (v := .int ik (if b > a then b else a)) rfl rfl (evl_ok hE hx) rfl (evl_ok hE hy) rfl ?_).trans rfl
  intro ρ h1 h2
  simp only [execOp, resolve, invoke, builtin, bind_pure_comp, List.map_toArray, List.map_cons, List.map_nil, pure_bind]
  show pureRun cfg.P (Builtin.max_ ats ty #[ρ x, ρ y] >>= fun r => Pure.pure (Next.value r)) = _
  rw [h1, h2]
  rfl
/-- All that is asked of a slice that stays. -/
theorem IsSl.all {s : Nat} {l : List PV} {p : PV} (h : IsSl s l p) : deepB p = true ∧ p.scalar = true ∧ p.cells = [p] ∧ cellP p = true ∧ plainP p = true := by
  rcases h with ⟨c, rfl⟩ | ⟨_, rfl⟩ <;> exact ⟨rfl, rfl, rfl, rfl, rfl⟩
def cellsOf : List (Nat × PV) → List (Nat × List PV)
  | [] => []
  | (i, p) :: r => (i, p.cells) :: cellsOf r
def fillB (place : Nat → Option (Nat × Nat)) : List PV → List (Nat × List PV) → Option (List PV)
  | cells, [] => some cells
  | cells, (i, p) :: rest =>
    match place i with
    | none => none
    | some (off, size) => if p.length = size ∧ off + size ≤ cells.length then fillB place (splice cells off p) rest else none
theorem fillA_eq (place : Nat → Option (Nat × Nat)) : ∀ (qs : List (Nat × PV)) (cells : List PV), fillA place cells qs = fillB place cells (cellsOf qs)
  | [], _ => rfl
  | (i, p) :: r, cells => by
    unfold cellsOf fillA fillB
    split
    · rename_i h; rw [h]
    · rename_i h; rw [h]; dsimp only; rw [fillA_eq place r]
def mkAggB (P : Program) (t : TypeId) (cs : List (Nat × List PV)) : Option (List PV) :=
  match zeroO P t, P.underlying t with
  | some z, some (.struct fields) =>
    match sizesOk P fields.toList with
    | true => fillB (placeS P fields) z.cells cs
    | false => none
  | some z, some (.array _ elem) =>
    match szO P elem with
    | some size => fillB (fun i => some (i * size, size)) z.cells cs
    | none => none
  | _, _ => none
theorem mkAgg_eq {P : Program} {t : TypeId} {qs : List (Nat × PV)} : mkAgg P t qs = mkAggB P t (cellsOf qs) := by
  unfold mkAgg mkAggB
  split
  · rename_i h1 h2
    rw [h1, h2]
    dsimp only
    split
    · rename_i h3; rw [h3]; exact fillA_eq _ _ _
    · rename_i h3; rw [h3]
  · rename_i h1 h2
    rw [h1, h2]
    dsimp only
    split
    · rename_i h3; rw [h3]; exact fillA_eq _ _ _
    · rename_i h3; rw [h3]
  · rename_i h1 h2
    split
    · rename_i h3 h4; exact absurd h4 (h1 _ _ h3)
    · rename_i h3 h4; exact absurd h4 (h2 _ _ _ h3)
    · rfl
theorem Rs.buildB {d : Tmp} {t : TypeId} {parts : Array (Nat × Operand)} {qs : List (Nat × PV)} {cs : List (Nat × List PV)} {l : List PV} (hlt : Nat.blt d sz = true) (hx : evpl cfg L parts.toList = some qs) (hc : cellsOf qs = cs) (hl : mkAggB cfg.P t cs = some l) (k : Rs cfg cur ops n sz os (i + 1) ((d, .agg l) :: L) M Q) :
    Rs cfg cur ops n sz (⟨some d, .build t parts, ty, ps, af, none⟩ :: os) i L M Q := Rs.build hlt hx (by rw [mkAgg_eq, hc, hl]) k
theorem cp_lit {v : Value} : cellP (.lit v) = true := rfl
theorem cp_dsl {s : Nat} {l : List PV} {c : Option Nat} : cellP (.dsl s l c) = true := rfl
theorem sc_int {k : IntKind} {n : Int} : PV.scalar (.lit (.int k n)) = true := rfl
theorem sc_str {b : ByteArray} : PV.scalar (.lit (.string b)) = true := rfl
theorem sc_bool {b : Bool} : PV.scalar (.lit (.bool b)) = true := rfl
theorem sc_nil {a : Option Addr} {n c : Nat} : PV.scalar (.lit (.slice a n c)) = true := rfl
theorem sc_dsl {s : Nat} {l : List PV} {c : Option Nat} : PV.scalar (.dsl s l c) = true := rfl
theorem sc_own {i v s o l : Nat} {c : Option Nat} : PV.scalar (.own i v s o l c) = true := rfl
theorem sc_g {s : Nat} {a : Option (Nat × Nat)} {l : List PV} : PV.scalar (gP s a l) = true := by cases a <;> rfl
theorem sc_f {s : Nat} {a : Option (Nat × Nat)} {l : List PV} : PV.scalar (fP s a l) = true := by cases a <;> rfl
theorem cl_g {s : Nat} {a : Option (Nat × Nat)} {l : List PV} : PV.cells (gP s a l) = [gP s a l] := by cases a <;> rfl
theorem cl_f {s : Nat} {a : Option (Nat × Nat)} {l : List PV} : PV.cells (fP s a l) = [fP s a l] := by cases a <;> rfl
theorem storeB_ag {P : Program} {t : TypeId} {es vs : List PV} {n : Nat} (hn : szO P t = some n) (h1 : Nat.beq vs.length n = true) (h2 : Nat.beq es.length n = true) (hs : scalars vs = true) : storeB P t [.agg es] 0 0 (.agg vs) = some [.agg vs] := by
  have h1 := Nat.eq_of_beq_eq_true h1
  have h2 := Nat.eq_of_beq_eq_true h2
  unfold storeB
  rw [hn]
  dsimp only [List.getElem?_cons_zero]
  rw [if_pos (by exact ⟨h1, (by show 0 + n ≤ es.length; omega), hs⟩)]
  simp only [splice, PV.cells, List.take_zero, List.nil_append, Nat.zero_add, List.set_cons_zero]
  rw [List.drop_eq_nil_of_le (by omega), List.append_nil]
theorem storeB_fld {P : Program} {t : TypeId} {es : List PV} {v : PV} {off : Nat} (hn : szO P t = some 1) (hv : v.cells = [v]) (hs : v.scalar = true) (ho : Nat.blt off es.length = true) : storeB P t [.agg es] 0 off v = some [.agg (es.set off v)] := by
  have ho : off < es.length := Nat.le_of_ble_eq_true ho
  unfold storeB
  rw [hn]
  dsimp only [List.getElem?_cons_zero]
  rw [if_pos ⟨by rw [hv]; rfl, by show off + 1 ≤ es.length; omega, by rw [hv]; simp [scalars, hs]⟩]
  simp only [splice, hv, List.length_singleton, List.set_cons_zero]
  rw [List.singleton_append, List.set_eq_take_append_cons_drop, if_pos ho]
end Go.Proofs.YtddaogebacigbaaGreatDoor.RV
end
section
set_option linter.unusedVariables false
namespace Go.Proofs.YtddaogebacigbaaGreatDoor.RV
variable {cfg : Cfg} {cur : FuncId} {sz : Nat} {L : Fr} {M : Mem} {ops : Array Oper} {n i : Nat} {os : List Oper} {Q : St → Prop} {R : Ex → St → Prop} {ty : TypeId} {ps : String} {af : Array Edge}
/-! ### Maps by whole numbers -/
abbrev Ents := List (Int × PV × Nat)
def mapO (ik : IntKind) (ms : Ents) (clock : Nat) : HObj := .mp (ms.map fun e => .int ik e.1) (ms.map fun e => e.2.1) (ms.map fun e => e.2.2) clock
def mget : Ents → Int → Option PV
  | [], _ => none
  | e :: r, n => if n = e.1 then some e.2.1 else mget r n
def midx : Ents → Int → Nat → Option Nat
  | [], _, _ => none
  | e :: r, n, i => if n = e.1 then some i else midx r n (i + 1)
theorem run_und {P : Program} {t : TypeId} {u : TypeDesc} (h : P.underlying t = some u) : pureRun P (Go.underlying t) = some u := by
  show pureRun P (match P.underlying t with | some u => _ | none => _) = _
  rw [h]
  rfl
theorem findNow_int {ik jk : IntKind} {n : Int} : ∀ (ms : Ents) (i : Nat), Instr.findNow (.int jk) (.int ik n) (entsOf (ms.map fun e => .int ik e.1) (ms.map fun e => e.2.2)) i = some ((midx ms n i).map fun j => (j, undef))
  | [], i => rfl
  | e :: r, i => by
    show Instr.findNow _ _ (⟨.int ik e.1, undef, e.2.2⟩ :: entsOf (r.map fun e => .int ik e.1) (r.map fun e => e.2.2)) i = _
    unfold Instr.findNow midx
    simp only [Instr.sameNow, if_true]
    by_cases h : n = e.1
    · subst h
      simp
    · rw [if_neg h, show (n == e.1) = false by simpa using h]
      exact findNow_int r (i + 1)
theorem findE_int {P : Program} {kt : TypeId} {ik jk : IntKind} {n : Int} {ms : Ents} (hk : P.underlying kt = some (.int jk)) : findE P kt (.int ik n) (ms.map fun e => .int ik e.1) (ms.map fun e => e.2.2) = some (midx ms n 0) := by
  unfold findE Instr.findKey
  rw [pureRun_bind, run_und hk]
  dsimp only [Option.bind]
  rw [findNow_int]
  cases midx ms n 0 <;> rfl
theorem keyOk_int {P : Program} {kt : TypeId} {ik jk : IntKind} {n : Int} {b : Bool} (hk : P.underlying kt = some (.int jk)) : keyOk P b kt (.int ik n) = true := by
  unfold keyOk
  rw [show (10000 : Nat) = 9999 + 1 from rfl]
  unfold Instr.checkKey
  rw [pureRun_bind, run_und hk]
  rfl
theorem midx_get : ∀ (ms : Ents) (n : Int) (i : Nat), (match midx ms n i with | some j => i ≤ j ∧ ∃ e, ms[j - i]? = some e ∧ e.1 = n ∧ mget ms n = some e.2.1 | none => mget ms n = none)
  | [], n, i => rfl
  | e :: r, n, i => by
    unfold midx mget
    by_cases h : n = e.1
    · rw [if_pos h, if_pos h]
      exact ⟨Nat.le_refl _, e, by simp, h.symm, rfl⟩
    · rw [if_neg h, if_neg h]
      have := midx_get r n (i + 1)
      split at this
      · rename_i j hj
        obtain ⟨h1, e', h2, h3, h4⟩ := this
        refine ⟨by omega, e', ?_, h3, h4⟩
        rw [show j - i = j - (i + 1) + 1 by omega, List.getElem?_cons_succ]
        exact h2
      · exact this
theorem lookupA_int {H : Heap} {t kt vt : TypeId} {ik jk : IntKind} {ms : Ents} {clock id v : Nat} {x : Int} {z : PV} (hu : cfg.P.underlying t = some (.map kt vt)) (hk : cfg.P.underlying kt = some (.int jk)) (hz : zeroO cfg.P vt = some z) (ho : obj H id v = some (mapO ik ms clock)) :
    lookupA cfg.P H t (.map id v) (.int ik x) = some ((mget ms x).getD z, (mget ms x).isSome) := by
  unfold lookupA
  rw [hu]
  dsimp only
  unfold mapOf
  dsimp only
  rw [ho]
  unfold mapO
  dsimp only
  rw [keyOk_int hk, if_pos rfl, findE_int hk]
  have := midx_get ms x 0
  cases h : midx ms x 0 with
  | none =>
    rw [h] at this
    dsimp only at this ⊢
    rw [hz, this]
    rfl
  | some j =>
    rw [h] at this
    obtain ⟨_, e, h2, _, h4⟩ := this
    dsimp only
    rw [List.getElem?_map, show ms[j]? = some e by simpa using h2, h4]
    rfl
theorem Rs.lookup {d : Tmp} {x y : Operand} {t kt vt : TypeId} {ik jk : IntKind} {ms : Ents} {clock id v : Nat} {k0 : Int} {z : PV} (j : Nat) (hlt : Nat.blt d sz = true) (hu : cfg.P.underlying t = some (.map kt vt)) (hk : cfg.P.underlying kt = some (.int jk)) (hz : zeroO cfg.P vt = some z) (hx : evl cfg L x = some (.map id v)) (hy : evl cfg L y = some (.lit (.int ik k0))) (hj : M[j]? = some (id, v, mapO ik ms clock))
    (k : Rs cfg cur ops n sz os (i + 1) ((d, (mget ms k0).getD z) :: L) M Q) : Rs cfg cur ops n sz (⟨some d, .lookup t x y false, ty, ps, af, none⟩ :: os) i L M Q := by
  refine Rs.read rfl rfl hlt rfl rfl (fun env H hE hH => ?_) k
  unfold aopRead
  dsimp only
  rw [evl_ok hE hx, evl_ok hE hy]
  dsimp only [toVal]
  rw [lookupA_int hu hk hz (hH.obj hj)]
theorem Rs.makeMap {d : Tmp} {t : TypeId} (hlt : Nat.blt d sz = true) (hm : isMapT cfg.P t = true) (ik : IntKind) (k : ∀ g, Rs cfg cur ops n sz os (i + 1) ((d, .map g 0) :: L) ((g, 0, mapO ik [] 0) :: M) Q) :
    Rs cfg cur ops n sz (⟨some d, .makeMap t none, ty, ps, af, none⟩ :: os) i L M Q :=
  Rs.new (pf := fun g => .map g 0) (ob := mapO ik [] 0) rfl rfl hlt rfl rfl (fun env id hE => by unfold aopNew; dsimp only; rw [hm, if_pos rfl]; rfl) k
/-- What an update makes of a map. -/
structure Upd (ms ms' : Ents) (x : Int) (p : PV) : Prop where
  get : ∀ q, mget ms' q = if q = x then some p else mget ms q
  nodup : (ms.map (·.1)).Nodup → (ms'.map (·.1)).Nodup
  len : ms'.length = if mget ms x = none then ms.length + 1 else ms.length
theorem mget_app : ∀ (ms : Ents) (x : Int) (p : PV) (c : Nat) (q : Int), mget ms x = none → mget (ms ++ [(x, p, c)]) q = if q = x then some p else mget ms q
  | [], x, p, c, q, _ => rfl
  | e :: r, x, p, c, q, h => by
    unfold mget at h
    split at h
    · cases h
    · rename_i hne
      show (if q = e.1 then some e.2.1 else mget (r ++ [(x, p, c)]) q) = if q = x then some p else (if q = e.1 then some e.2.1 else mget r q)
      rw [mget_app r x p c q h]
      by_cases hq : q = e.1
      · rw [if_pos hq, if_pos hq, if_neg (fun hh => hne (hh.symm.trans hq))]
      · rw [if_neg hq, if_neg hq]
theorem mget_set : ∀ (ms : Ents) (x : Int) (p : PV) (i j : Nat), midx ms x i = some j → (∀ q, mget (ms.set (j - i) (x, p, (ms[j - i]?.map (·.2.2)).getD 0)) q = if q = x then some p else mget ms q) ∧ (ms.set (j - i) (x, p, (ms[j - i]?.map (·.2.2)).getD 0)).map (·.1) = ms.map (·.1)
  | [], _, _, _, _, h => by cases h
  | e :: r, x, p, i, j, h => by
    unfold midx at h
    split at h
    · rename_i hx
      cases h
      rw [Nat.sub_self, List.set_cons_zero]
      refine ⟨fun q => ?_, by simp [hx]⟩
      show (if q = x then some p else mget r q) = if q = x then some p else (if q = e.1 then some e.2.1 else mget r q)
      by_cases hq : q = x
      · rw [if_pos hq, if_pos hq]
      · rw [if_neg hq, if_neg hq, if_neg (fun hh => hq (hh.trans hx.symm))]
    · rename_i hx
      have hle : i + 1 ≤ j := by
        have := midx_get r x (i + 1)
        rw [h] at this
        exact this.1
      obtain ⟨h1, h2⟩ := mget_set r x p (i + 1) j h
      rw [show j - i = (j - (i + 1)) + 1 by omega]
      simp only [List.set_cons_succ, List.getElem?_cons_succ, List.map_cons]
      refine ⟨fun q => ?_, by rw [h2]⟩
      show (if q = e.1 then some e.2.1 else mget (r.set _ _) q) = if q = x then some p else (if q = e.1 then some e.2.1 else mget r q)
      rw [h1 q]
      by_cases hq : q = e.1
      · rw [if_pos hq, if_pos hq, if_neg (fun hh => hx (hh.symm.trans hq))]
      · rw [if_neg hq, if_neg hq]
theorem mget_none_mem : ∀ (ms : Ents) (x : Int), mget ms x = none → x ∉ ms.map (·.1)
  | [], _, _ => by simp
  | e :: r, x, h => by
    unfold mget at h
    split at h
    · cases h
    · rename_i hne
      rw [List.map_cons, List.mem_cons]
      exact fun hh => hh.elim hne (mget_none_mem r x h)
theorem updateA_int {H : Heap} {t kt vt : TypeId} {ik jk : IntKind} {ms : Ents} {clock id v : Nat} {x : Int} {p : PV} (hu : cfg.P.underlying t = some (.map kt vt)) (hk : cfg.P.underlying kt = some (.int jk)) (ho : obj H id v = some (mapO ik ms clock)) :
    ∃ ms' clock', Upd ms ms' x p ∧ updateA cfg.P H t (.map id v) (.int ik x) p = some [(id, v, mapO ik ms' clock')] := by
  unfold updateA
  rw [hu]
  dsimp only
  rw [ho]
  unfold mapO
  dsimp only
  rw [keyOk_int hk, if_pos rfl, findE_int hk]
  have hg := midx_get ms x 0
  cases h : midx ms x 0 with
  | none =>
    rw [h] at hg
    dsimp only at hg ⊢
    refine ⟨ms ++ [(x, p, clock)], clock + 1, ⟨fun q => mget_app ms x p clock q hg, fun hn => ?_, by rw [hg, if_pos rfl]; simp⟩, by simp⟩
    rw [List.map_append]
    refine List.nodup_append.2 ⟨hn, by simp, fun a ha b hb => ?_⟩
    rw [List.map_singleton, List.mem_singleton] at hb
    rw [hb]
    exact fun e => mget_none_mem ms x hg (by have e : a = x := e; rw [← e]; exact ha)
  | some j =>
    rw [h] at hg
    obtain ⟨_, e, h2, h3, h4⟩ := hg
    have h2 : ms[j]? = some e := by simpa using h2
    obtain ⟨g1, g2⟩ := mget_set ms x p 0 j h
    rw [Nat.sub_zero] at g1 g2
    dsimp only
    rw [List.getElem?_map, h2]
    dsimp only [Option.map]
    rw [h2] at g1 g2
    dsimp only [Option.map, Option.getD] at g1 g2
    have hb : Instr.sameBits 10000 (.int ik e.1) (.int ik x) = true := by
      rw [h3]
      unfold Instr.sameBits
      simp
    rw [if_pos hb]
    refine ⟨ms.set j (x, p, e.2.2), clock, ⟨g1, fun hn => by rw [g2]; exact hn, by rw [h4, if_neg (by simp)]; simp⟩, ?_⟩
    have hlt := (List.getElem?_eq_some_iff.1 h2).1
    have hbs : (ms.map fun e => e.2.2).set j e.2.2 = ms.map fun e => e.2.2 := by
      refine List.ext_getElem? fun q => ?_
      rw [List.getElem?_set]
      by_cases hq : j = q
      · subst hq
        rw [if_pos rfl, if_pos (by simpa using hlt), List.getElem?_map, h2]
        rfl
      · rw [if_neg hq]
    simp only [List.map_set]
    rw [hbs]
theorem Rs.mapUpdate {x y z : Operand} {t kt vt : TypeId} {ik jk : IntKind} {ms : Ents} {clock id v : Nat} {k0 : Int} {p : PV} (j : Nat) (hu : cfg.P.underlying t = some (.map kt vt)) (hk : cfg.P.underlying kt = some (.int jk)) (hx : evl cfg L x = some (.map id v)) (hy : evl cfg L y = some (.lit (.int ik k0))) (hz : evl cfg L z = some p) (hj : M[j]? = some (id, v, mapO ik ms clock))
    (k : ∀ ms' clock', Upd ms ms' k0 p → Rs cfg cur ops n sz os (i + 1) L (M.set j (id, v, mapO ik ms' clock')) Q) : Rs cfg cur ops n sz (⟨none, .mapUpdate t x y z, ty, ps, af, none⟩ :: os) i L M Q := by
  intro base env H m hn hm h1 h2 h3
  obtain ⟨ms', clock', hU, hA⟩ := updateA_int (p := p) (x := k0) hu hk (h2.obj hj)
  refine Rs.write (M' := M.set j (id, v, mapO ik ms' clock')) (p := undefP) rfl rfl rfl (fun env H fr hE hH hf => ?_) (k ms' clock' hU) base env H m hn hm h1 h2 h3
  obtain ⟨ms2, c2, hU2, hA2⟩ := updateA_int (p := p) (x := k0) hu hk (hH.obj hj)
  have hsame : updateA cfg.P H t (.map id v) (.int ik k0) p = some [(id, v, mapO ik ms' clock')] := by
    have e1 : ∀ H : Heap, obj H id v = some (mapO ik ms clock) → updateA cfg.P H t (.map id v) (.int ik k0) p = updateA cfg.P (Tr.put .e id (v, mapO ik ms clock)) t (.map id v) (.int ik k0) p := by
      intro H ho
      have ho2 : obj (Tr.put .e id (v, mapO ik ms clock)) id v = some (mapO ik ms clock) := by
        unfold obj
        rw [put_get, if_pos rfl]
        simp
      unfold updateA
      rw [hu]
      dsimp only
      rw [ho, ho2]
    rw [e1 H (hH.obj hj), ← e1 _ (h2.obj hj)]
    exact hA
  refine ⟨[(id, v, mapO ik ms' clock')], ?_, hH.set hj v _, fun i' hi hg => ?_⟩
  · unfold aopWrite
    dsimp only
    rw [evl_ok hE hx, evl_ok hE hy, evl_ok hE hz]
    dsimp only [toVal]
    rw [hsame]
  · show (H.put id _).get i' = none
    rw [put_get, if_neg (fun e => ?_)]
    · exact hg
    · have := hH.2 _ _ _ (List.mem_of_getElem? hj)
      rw [← e, hg] at this
      cases this
end Go.Proofs.YtddaogebacigbaaGreatDoor.RV
end
section
/-! Values as the evaluator has them -/
namespace Go.Proofs.YtddaogebacigbaaGreatDoor.RV
abbrev i64P (n : Int) : PV := .lit (.int .i64 n)
abbrev i32P (n : Int) : PV := .lit (.int .i32 n)
abbrev i16P (n : Int) : PV := .lit (.int .i16 n)
abbrev u64P (n : Int) : PV := .lit (.int .u64 n)
abbrev u32P (n : Int) : PV := .lit (.int .u32 n)
abbrev u16P (n : Int) : PV := .lit (.int .u16 n)
abbrev u8P (n : Int) : PV := .lit (.int .u8 n)
abbrev boolP (b : Bool) : PV := .lit (.bool b)
abbrev strP (s : ByteArray) : PV := .lit (.string s)
abbrev nilP : PV := .lit (.slice none 0 0)
structure Acc where
  code : Int
  name : ByteArray
  kind : Int
  parent : Int
def accP (a : Acc) : PV := .agg [u32P a.code, strP a.name, u8P a.kind, u32P a.parent]
structure Ln where
  acc : Int
  ent : Int
  ctr : Int
  amt : Int
def lnP (l : Ln) : PV := .agg [u32P l.acc, u16P l.ent, u16P l.ctr, i64P l.amt]
structure Jn where
  day : Int
  lines : List Ln
def jnP (j : Jn) : PV := .agg [i32P j.day, slP 4 (j.lines.map lnP)]
end Go.Proofs.YtddaogebacigbaaGreatDoor.RV
end
section
namespace Go.Proofs.YtddaogebacigbaaGreatDoor.RV
open Go.RowKit Go.Deep Go.ChangeShapes Go.WideShapes
set_option linter.unusedVariables false
/-! ### Arguments: what reads as data of a type has a reading as a value of the evaluator -/
def noO : Nat → Prop := fun _ => False
/-- Whatever reads as data of type t has a reading of which D holds. -/
def Opns (P : Program) (t : TypeId) (D : PV → Prop) : Prop :=
  ∀ {H : Type} (enc : TypeId × Value → H) (w : World) (base : Nat) (sp : Nat → Bool) (held : Bool) (fuel : Nat) (cs : List Value) (x : DataW H × List MemPlace),
    DataW.trod enc P w base sp held fuel t cs = some x → (∀ m ∈ x.1.weights P t, m ≤ reachBytes) → ∃ p y, D p ∧ V w noO iota0 p y ∧ y.cells.toList = cs ∧ VL w noO iota0 p.cells cs
theorem op_int {P : Program} {t : TypeId} {k : IntKind} (ht : P.underlying t = some (.int k)) : Opns P t (fun p => ∃ n, p = .lit (.int k n) ∧ (Lit.int k n).wf = true) := by
  intro H enc w base sp held fuel cs x h _
  obtain ⟨n, rfl, _, hw⟩ := DataW.trod_int ht h
  exact ⟨.lit (.int k n), .int k n, ⟨n, rfl, hw⟩, V.lit_iff.2 rfl, rfl, VL.cons_iff.2 ⟨_, _, rfl, V.lit_iff.2 rfl, VL.nil_iff.2 rfl⟩⟩
theorem op_bool {P : Program} {t : TypeId} (ht : P.underlying t = some .bool) : Opns P t (fun p => ∃ b, p = .lit (.bool b)) := by
  intro H enc w base sp held fuel cs x h _
  obtain ⟨n, rfl, _⟩ := DataW.trod_bool ht h
  exact ⟨.lit (.bool n), .bool n, ⟨n, rfl⟩, V.lit_iff.2 rfl, rfl, VL.cons_iff.2 ⟨_, _, rfl, V.lit_iff.2 rfl, VL.nil_iff.2 rfl⟩⟩
theorem op_string {P : Program} {t : TypeId} (ht : P.underlying t = some .string) : Opns P t (fun p => ∃ s : ByteArray, p = .lit (.string s) ∧ s.size ≤ 140737488351232) := by
  intro H enc w base sp held fuel cs x h hwt
  obtain ⟨n, rfl, hx, hw⟩ := DataW.trod_string ht h
  refine ⟨.lit (.string n), .string n, ⟨n, rfl, ?_⟩, V.lit_iff.2 rfl, rfl, VL.cons_iff.2 ⟨_, _, rfl, V.lit_iff.2 rfl, VL.nil_iff.2 rfl⟩⟩
  subst hx
  have := hwt n.data.toList.length (by simp [DataW.weights])
  rw [Array.length_toList] at this
  exact this
theorem weights_all {H : Type} {P : Program} {e : TypeId} : ∀ (l : List (DataW H)) (d : DataW H), d ∈ l → ∀ n ∈ d.weights P e, n ∈ DataW.weightsAll P e l
  | x :: l, d, hd, n, hn => by
    simp only [DataW.weightsAll, List.mem_append]
    rcases List.mem_cons.1 hd with rfl | hd
    · exact .inl hn
    · exact .inr (weights_all l d hd n hn)
theorem choose_list {α : Type} {p : Nat → α → Prop} : ∀ n : Nat, (∀ i, i < n → ∃ a, p i a) → ∃ l : List α, l.length = n ∧ ∀ i a, l[i]? = some a → p i a
  | 0, _ => ⟨[], rfl, fun i a h => by simp at h⟩
  | n + 1, h => by
    obtain ⟨l, hl, hp⟩ := choose_list n (fun i hi => h i (by omega))
    obtain ⟨a, ha⟩ := h n (by omega)
    refine ⟨l ++ [a], by simp [hl], fun i b hb => ?_⟩
    rcases Nat.lt_trichotomy i n with hi | rfl | hi
    · rw [List.getElem?_append_left (by omega)] at hb
      exact hp i b hb
    · rw [List.getElem?_append_right (by omega), hl, Nat.sub_self] at hb
      simp at hb
      rw [← hb]
      exact ha
    · rw [List.getElem?_eq_none (by simp; omega)] at hb
      cases hb
theorem cell_spot {w : World} {a : Addr} {v : Value} (h : w.cell? a = some v) : ∃ cs t fz, a = ⟨a.block, a.off, none⟩ ∧ w.heap[a.block]? = some (.cells cs t fz) ∧ cs[a.off]? = some v := by
  unfold World.cell? at h
  split at h
  · rename_i cs t fz hb
    split at h
    · cases h
    · rename_i hs
      refine ⟨cs, t, fz, ?_, hb, h⟩
      obtain ⟨b, o, s⟩ := a
      cases s with
      | none => rfl
      | some s => simp at hs
  · cases h
theorem op_slice {P : Program} {t e : TypeId} {D : PV → Prop} {s : Nat} (ht : P.underlying t = some (.slice e)) (hd : Opns P e D) (hsz : P.cellsOf e = s) (hs0 : 0 < s) (hb0 : 0 < P.bytesOf e) :
    Opns P t (fun p => ∃ l, p = .dsl s l none ∧ l.length ≤ 140737488351232 ∧ ∀ q ∈ l, D q) := by
  intro H enc w base sp held fuel cs x h hwt
  rcases open_slice ht h with ⟨rfl, _⟩ | ⟨a, len, cap, m, n, Dt, Pl, rfl, _, hl, hm, hmm, hx, hi⟩
  · have hv : V w noO iota0 (.dsl s [] none) (.slice none 0 0) := V.dsl_iff.2 ⟨none, 0, rfl, Nat.le_refl _, fun k h => (by cases h), .inl rfl⟩
    exact ⟨.dsl s [] none, .slice none 0 0, ⟨[], rfl, by simp, by simp⟩, hv, rfl, VL.cons_iff.2 ⟨_, _, rfl, hv, VL.nil_iff.2 rfl⟩⟩
  · have hlm : len ≤ m := by rw [hmm]; split <;> omega
    have hlb : len ≤ 140737488351232 := by
      have h0 := hwt (((List.range len).map Dt).length * P.bytesOf e + ((m - len) * P.bytesOf e)) (by
        rw [hx]
        simp only [DataW.weights, ht, List.mem_cons]
        left
        rw [← Nat.add_mul]
        congr 1
        simp)
      have h1 : len * 1 ≤ len * P.bytesOf e := Nat.mul_le_mul_left _ hb0
      have h2 : reachBytes = 140737488351232 := rfl
      simp only [List.length_map, List.length_range] at h0
      omega
    obtain ⟨l, hll, hp⟩ := choose_list (p := fun i (b : PV) => D b ∧ ∃ y, V w noO iota0 b y ∧ ∃ c, y.cells.toList = c ∧ c.length = s ∧ ∀ j u, c[j]? = some u → w.cell? (a.add (i * s + j)) = some u) len (fun i him => by
      obtain ⟨c, hc, htr⟩ := hi i (by omega)
      obtain ⟨b, y, hb, hv, hy, _⟩ := hd enc w base sp held n c _ htr (fun q hq => hwt q (by
        rw [hx]
        simp only [DataW.weights, ht, List.mem_cons, List.mem_append]
        exact .inr (.inl (weights_all _ (Dt i) (List.mem_map.2 ⟨i, List.mem_range.2 him, rfl⟩) q hq))))
      obtain ⟨_, hcl, hat⟩ := World.cells?_some hc
      refine ⟨b, hb, y, hv, c, hy, by rw [hcl, hsz], fun j u hj => ?_⟩
      have hjl : j < c.length := (List.getElem?_eq_some_iff.1 hj).1
      have := hat j (by omega)
      rw [Go.Deep.add_add, hsz] at this
      rw [this, hj])
    have hv : V w noO iota0 (.dsl s l none) (.slice (some a) len cap) := by
      refine V.dsl_iff.2 ⟨some a, cap, by rw [hll], by omega, fun k h => (by cases h), ?_⟩
      by_cases hl0 : l = []
      · exact .inl hl0
      · right
        have hpos : 0 < l.length := List.length_pos_iff.2 hl0
        obtain ⟨x0, hx0⟩ : ∃ x0, l[0]? = some x0 := ⟨l[0], List.getElem?_eq_getElem hpos⟩
        obtain ⟨_, y0, _, c0, hy0, hc0, hat0⟩ := hp 0 x0 hx0
        obtain ⟨u0, hu0⟩ : ∃ u0, c0[0]? = some u0 := ⟨c0[0], List.getElem?_eq_getElem (by omega)⟩
        obtain ⟨ccs, ct, cfz, ha, hb, _⟩ := cell_spot (hat0 0 u0 hu0)
        have hab : (a.add (0 * s + 0)) = a := by rw [Nat.zero_mul]; unfold Addr.add; rw [if_pos rfl]
        rw [hab] at ha hb
        refine ⟨a.block, a.off, by rw [← ha], id, ?_⟩
        refine VE.of_get fun i q hq => ?_
        obtain ⟨_, y, hv, c, hy, hc, hat⟩ := hp i q hq
        refine ⟨y, hv, by rw [← Array.length_toList, hy, hc], ccs, ct, cfz, hb, fun j u hj => ?_⟩
        rw [hy] at hj
        have := hat j u hj
        obtain ⟨cs2, t2, fz2, _, hb2, hg2⟩ := cell_spot this
        have e1 : (a.add (i * s + j)).block = a.block := by unfold Addr.add; split <;> rfl
        have e2 : (a.add (i * s + j)).off = a.off + (i * s + j) := by unfold Addr.add; split <;> first | rfl | omega
        rw [e1, hb] at hb2
        cases hb2
        rw [e2] at hg2
        rw [show a.off + i * s + j = a.off + (i * s + j) by omega]
        exact hg2
    exact ⟨.dsl s l none, .slice (some a) len cap, ⟨l, rfl, by rw [hll]; exact hlb, fun q hq => by
      obtain ⟨i, hi'⟩ := List.getElem?_of_mem hq
      exact (hp i q hi').1⟩, hv, rfl, VL.cons_iff.2 ⟨_, _, rfl, hv, VL.nil_iff.2 rfl⟩⟩
theorem VL_app {w : World} {O : Nat → Prop} {ι : Iota} : ∀ {a b : List PV} {xs ys : List Value}, VL w O ι a xs → VL w O ι b ys → VL w O ι (a ++ b) (xs ++ ys)
  | [], b, xs, ys, h1, h2 => by rw [VL.nil_iff] at h1; subst h1; exact h2
  | p :: a, b, xs, ys, h1, h2 => by
    obtain ⟨x, xs', rfl, hx, hxs⟩ := VL.cons_iff.1 h1
    exact VL.cons_iff.2 ⟨x, xs' ++ ys, rfl, hx, VL_app hxs h2⟩
/-- The fields of a struct, one behind the other, from 'o' on. -/
def Fields (P : Program) : List Field → Nat → List (PV → Prop) → Prop
  | [], _, [] => True
  | f :: fs, o, D :: Ds => f.offset = o ∧ Opns P f.type D ∧ Fields P fs (o + P.cellsOf f.type) Ds
  | _, _, _ => False
def AllD : List (PV → Prop) → List PV → Prop
  | [], [] => True
  | D :: Ds, p :: ps => D p ∧ AllD Ds ps
  | _, _ => False
def widths (P : Program) : List Field → Nat
  | [] => 0
  | f :: fs => P.cellsOf f.type + widths P fs
theorem op_struct {P : Program} {t : TypeId} {fs : Array Field} {Ds : List (PV → Prop)} (ht : P.underlying t = some (.struct fs)) (hf : Fields P fs.toList 0 Ds) (hw : P.cellsOf t = widths P fs.toList) :
    Opns P t (fun p => ∃ ps, AllD Ds ps ∧ p = .agg (ps.flatMap PV.cells)) := by
  intro H enc w base sp held fuel cs x h hwt
  obtain ⟨xs, n, _, hx, hcl, hlen, hfs⟩ := DataW.trod_struct ht h
  have key : ∀ (l : List Field) (o k : Nat) (Ds : List (PV → Prop)), (∀ i f, l[i]? = some f → fs[k + i]? = some f) → Fields P l o Ds → ∃ ps, AllD Ds ps ∧ VL w noO iota0 (ps.flatMap PV.cells) ((cs.drop o).take (widths P l)) := by
    intro l
    induction l with
    | nil =>
      intro o k Ds _ hF
      cases Ds with
      | nil => exact ⟨[], trivial, by simp only [widths, List.take_zero, List.flatMap_nil]; exact VL.nil_iff.2 rfl⟩
      | cons => exact hF.elim
    | cons f l ih =>
      intro o k Ds hl hF
      cases Ds with
      | nil => exact hF.elim
      | cons D Ds =>
        obtain ⟨h1, h2, h3⟩ := hF
        have hk : fs[k]? = some f := hl 0 f rfl
        have ht := hfs k f hk
        have hkl : k < xs.length := by rw [hlen]; exact (Array.getElem?_eq_some_iff.1 hk).1
        rw [List.getElem?_eq_getElem hkl, h1] at ht
        obtain ⟨p, y, hD, hv, hy, hvl⟩ := h2 enc w base sp held n _ _ ht (fun q hq => hwt q (by
          rw [hx]
          simp only [DataW.weights, ‹P.underlying t = some (.struct fs)›]
          exact DataW.weights_mem_each (j := k) (t := f.type) (by rw [List.getElem?_map, show fs.toList[k]? = some f by simpa using hk]; rfl) (by rw [List.getElem?_map, List.getElem?_eq_getElem hkl]; rfl) q hq))
        obtain ⟨ps, hps, hvs⟩ := ih (o + P.cellsOf f.type) (k + 1) Ds (fun i g hg => by rw [show k + 1 + i = k + (i + 1) by omega]; exact hl (i + 1) g (by simpa using hg)) h3
        refine ⟨p :: ps, ⟨hD, hps⟩, ?_⟩
        rw [List.flatMap_cons]
        have e : (cs.drop o).take (widths P (f :: l)) = (cs.drop o).take (P.cellsOf f.type) ++ (cs.drop (o + P.cellsOf f.type)).take (widths P l) := by
          rw [widths, List.take_add, List.drop_drop]
        rw [e]
        exact VL_app hvl hvs
  obtain ⟨ps, hps, hvs⟩ := key fs.toList 0 0 Ds (fun i f h => by rw [Nat.zero_add]; simpa using h) hf
  rw [List.drop_zero, ← hw, ← hcl, List.take_length] at hvs
  exact ⟨.agg (ps.flatMap PV.cells), .agg cs.toArray, ⟨ps, hps, rfl⟩, V.agg_iff.2 ⟨cs.toArray, rfl, by simpa using hvs⟩, rfl, hvs⟩
theorem Opns.mono {P : Program} {t : TypeId} {D E : PV → Prop} (h : Opns P t D) (he : ∀ p, D p → E p) : Opns P t E := by
  intro H enc w base sp held fuel cs x hx hw
  obtain ⟨p, y, hD, hr⟩ := h enc w base sp held fuel cs x hx hw
  exact ⟨p, y, he p hD, hr⟩
def IsI (k : IntKind) (p : PV) : Prop := ∃ n, p = .lit (.int k n) ∧ (Lit.int k n).wf = true
def IsL (s : Nat) (D : PV → Prop) (p : PV) : Prop := ∃ l, p = .dsl s l none ∧ l.length ≤ 140737488351232 ∧ ∀ q ∈ l, D q
theorem lift_enc {α : Type} {enc : α → PV} {Ok : α → Prop} : ∀ l : List PV, (∀ q ∈ l, ∃ a, q = enc a ∧ Ok a) → ∃ as : List α, l = as.map enc ∧ ∀ a ∈ as, Ok a
  | [], _ => ⟨[], rfl, by simp⟩
  | q :: l, h => by
    obtain ⟨a, rfl, ha⟩ := h q (by simp)
    obtain ⟨as, rfl, has⟩ := lift_enc l (fun r hr => h r (by simp [hr]))
    exact ⟨a :: as, rfl, by simpa using ⟨ha, has⟩⟩
theorem IsL.enc {α : Type} {enc : α → PV} {Ok : α → Prop} {s : Nat} {p : PV} (h : IsL s (fun q => ∃ a, q = enc a ∧ Ok a) p) : ∃ as : List α, p = .dsl s (as.map enc) none ∧ as.length ≤ 140737488351232 ∧ ∀ a ∈ as, Ok a := by
  obtain ⟨l, rfl, hl, hq⟩ := h
  obtain ⟨as, rfl, ha⟩ := lift_enc l hq
  exact ⟨as, rfl, by simpa using hl, ha⟩
theorem IsL.ints {k : IntKind} {s : Nat} {p : PV} (h : IsL s (IsI k) p) : ∃ as : List Int, p = .dsl s (as.map (fun n => .lit (.int k n))) none ∧ as.length ≤ 140737488351232 ∧ ∀ a ∈ as, (Lit.int k a).wf = true := IsL.enc h
theorem allD_cons {D : PV → Prop} {Ds : List (PV → Prop)} {ps : List PV} (h : AllD (D :: Ds) ps) : ∃ p r, ps = p :: r ∧ D p ∧ AllD Ds r := by
  cases ps with
  | nil => exact h.elim
  | cons p r => exact ⟨p, r, rfl, h.1, h.2⟩
theorem allD_nil {ps : List PV} (h : AllD [] ps) : ps = [] := by
  cases ps with
  | nil => rfl
  | cons p r => exact h.elim
theorem wf_rng {k : IntKind} {n a b : Int} (h : (Lit.int k n).wf = true) (ha : k.min = a) (hb : k.max = b) : a ≤ n ∧ n ≤ b := by
  subst ha; subst hb; simpa [Lit.wf] using h
end Go.Proofs.YtddaogebacigbaaGreatDoor.RV
end
section
namespace Go.Proofs.YtddaogebacigbaaGreatDoor.RV.ChartMath
set_option linter.unusedVariables false
set_option linter.unusedSimpArgs false
def Sorted (c : List Acc) : Prop := c.Pairwise (fun a b => a.code < b.code)
def find (c : List Acc) (n : Int) : Option Acc := c.find? (fun a => a.code == n)
/-- An account's way, so many accounts at most. -/
def way (c : List Acc) : Nat → Int → List Int
  | 0, _ => []
  | k + 1, n => match find c n with
    | none => []
    | some a => n :: way c k a.parent
theorem find_mem {c : List Acc} {n : Int} {a : Acc} (h : find c n = some a) : a ∈ c ∧ a.code = n := by
  unfold find at h
  have h1 := List.mem_of_find?_eq_some h
  have h2 := List.find?_some h
  exact ⟨h1, by simpa using h2⟩
theorem find_none {c : List Acc} {n : Int} (h : find c n = none) : ∀ a ∈ c, a.code ≠ n := by
  unfold find at h
  rw [List.find?_eq_none] at h
  intro a ha e
  exact h a ha (by simp [e])
theorem sorted_inj {c : List Acc} (S : Sorted c) {a b : Acc} (ha : a ∈ c) (hb : b ∈ c) (e : a.code = b.code) : a = b := by
  induction c with
  | nil => cases ha
  | cons x t ih =>
    unfold Sorted at S
    rw [List.pairwise_cons] at S
    rcases List.mem_cons.1 ha with rfl | ha
    · rcases List.mem_cons.1 hb with rfl | hb
      · rfl
      · have := S.1 b hb
        omega
    · rcases List.mem_cons.1 hb with e2 | hb
      · have := S.1 a ha
        rw [← e2] at this
        omega
      · exact ih S.2 ha hb
theorem find_of_mem {c : List Acc} (S : Sorted c) {a : Acc} (ha : a ∈ c) : find c a.code = some a := by
  cases h : find c a.code with
  | none => exact absurd rfl (find_none h a ha)
  | some b =>
    obtain ⟨hb, e⟩ := find_mem h
    rw [sorted_inj S hb ha e]
theorem way_length (c : List Acc) : ∀ k n, (way c k n).length ≤ k
  | 0, _ => by simp [way]
  | k + 1, n => by
    unfold way
    split
    · simp
    · simp
      exact way_length c k _
theorem way_in {c : List Acc} {k : Nat} {a : Acc} (S : Sorted c) (ha : a ∈ c) : way c (k + 1) a.code = a.code :: way c k a.parent := by
  rw [way, find_of_mem S ha]
/-- A chart of which each account lies in none, or in one ahead of it, of its kind, and no way is longer than twelve. -/
structure Good (c : List Acc) : Prop where
  sorted : Sorted c
  pos : ∀ a ∈ c, 1 ≤ a.code
  parent : ∀ a ∈ c, a.parent = 0 ∨ ∃ p ∈ c, p.code = a.parent ∧ p.code < a.code ∧ p.kind = a.kind
  deep : ∀ a ∈ c, (way c 13 a.code).length ≤ 12
theorem find_zero {c : List Acc} (G : Good c) : find c 0 = none := by
  cases h : find c 0 with
  | none => rfl
  | some b =>
    obtain ⟨hb, e⟩ := find_mem h
    have := G.pos b hb
    omega
theorem way_zero {c : List Acc} (G : Good c) (k : Nat) : way c k 0 = [] := by
  cases k with
  | zero => rfl
  | succ k => rw [way, find_zero G]
theorem way_mono (c : List Acc) : ∀ k n, (way c k n).length ≤ (way c (k + 1) n).length
  | 0, n => by simp [way]
  | k + 1, n => by
    rw [way, way]
    split
    · exact Nat.le_refl _
    · simp
      exact way_mono c k _
/-- More room, the same way, where it ends within. -/
theorem way_stop {c : List Acc} : ∀ (k n), (way c k n).length < k → ∀ j, way c (k + j) n = way c k n
  | 0, n, h, j => by simp [way] at h
  | k + 1, n, h, j => by
    rw [show k + 1 + j = (k + j) + 1 by omega, way, way]
    split
    · rfl
    · rename_i a ha
      rw [way, ha] at h
      simp at h
      rw [way_stop k a.parent (by omega) j]
theorem way_13 {c : List Acc} (G : Good c) {a : Acc} (ha : a ∈ c) : way c 13 a.code = a.code :: way c 13 a.parent := by
  have hd := G.deep a ha
  rw [way_in G.sorted ha] at hd
  simp at hd
  rw [way_in G.sorted ha, ← way_stop 12 a.parent (by omega) 1]
/-- What is on a way is an account of the chart, at most as great, of its kind. -/
theorem way_sub {c : List Acc} (G : Good c) : ∀ (k : Nat) (a : Acc), a ∈ c → ∀ x ∈ way c k a.code, ∃ b ∈ c, b.code = x ∧ b.code ≤ a.code ∧ b.kind = a.kind
  | 0, a, ha, x, hx => by simp [way] at hx
  | k + 1, a, ha, x, hx => by
    rw [way_in G.sorted ha] at hx
    rcases List.mem_cons.1 hx with rfl | hx
    · exact ⟨a, ha, rfl, Int.le_refl _, rfl⟩
    · rcases G.parent a ha with h0 | ⟨p, hp, e, hlt, hk⟩
      · rw [h0, way_zero G] at hx
        cases hx
      · rw [← e] at hx
        obtain ⟨b, hb, e1, e2, e3⟩ := way_sub G k p hp x hx
        exact ⟨b, hb, e1, by omega, by rw [e3, hk]⟩
theorem self_in {c : List Acc} (G : Good c) {a : Acc} (ha : a ∈ c) : a.code ∈ way c 13 a.code := by rw [way_13 G ha]; exact List.mem_cons_self
theorem parent_in {c : List Acc} (G : Good c) {a : Acc} (ha : a ∈ c) (h : a.parent ≠ 0) : a.parent ∈ way c 13 a.code ∧ ¬ a.code ∈ way c 13 a.parent := by
  rcases G.parent a ha with h0 | ⟨p, hp, e, hlt, hk⟩
  · exact absurd h0 h
  · rw [way_13 G ha, ← e]
    refine ⟨List.mem_cons_of_mem _ (self_in G hp), fun hx => ?_⟩
    obtain ⟨b, _, e1, e2, _⟩ := way_sub G 13 p hp _ hx
    omega
theorem both_in {c : List Acc} (G : Good c) {a b : Acc} (ha : a ∈ c) (hb : b ∈ c) (h1 : b.code ∈ way c 13 a.code) (h2 : a.code ∈ way c 13 b.code) : a.code = b.code := by
  obtain ⟨_, _, e1, e2, _⟩ := way_sub G 13 a ha _ h1
  obtain ⟨_, _, e3, e4, _⟩ := way_sub G 13 b hb _ h2
  omega
theorem kind_in {c : List Acc} (G : Good c) {a b : Acc} (ha : a ∈ c) (hb : b ∈ c) (h1 : b.code ∈ way c 13 a.code) : a.kind = b.kind := by
  obtain ⟨x, hx, e1, _, e2⟩ := way_sub G 13 a ha _ h1
  rw [← e2, sorted_inj G.sorted hx hb e1]
theorem step_in {c : List Acc} (G : Good c) {a : Acc} (ha : a ∈ c) {n : Int} (h : n ≠ a.code) : n ∈ way c 13 a.code ↔ a.parent ≠ 0 ∧ n ∈ way c 13 a.parent := by
  rw [way_13 G ha, List.mem_cons]
  constructor
  · rintro (e | hx)
    · exact absurd e h
    · refine ⟨fun h0 => ?_, hx⟩
      rw [h0, way_zero G] at hx
      cases hx
  · exact fun hx => .inr hx.2
/-- One account more behind all others. -/
theorem find_snoc {c : List Acc} {x : Acc} {n : Int} (h : n ≠ x.code) : find (c ++ [x]) n = find c n := by
  unfold find
  rw [List.find?_append]
  have : [x].find? (fun a => a.code == n) = none := by simp; omega
  rw [this]
  cases c.find? (fun a => a.code == n) <;> rfl
theorem way_snoc {c : List Acc} {x : Acc} (hpar : ∀ a ∈ c, a.parent ≠ x.code) : ∀ (k : Nat) (n : Int), n ≠ x.code → way (c ++ [x]) k n = way c k n
  | 0, n, _ => rfl
  | k + 1, n, h => by
    rw [way, way, find_snoc h]
    split
    · rfl
    · rename_i a ha
      rw [way_snoc hpar k a.parent (hpar a (find_mem ha).1)]
theorem Good.nil : Good [] := ⟨List.Pairwise.nil, by simp, by simp, by simp⟩
theorem Good.snoc {c : List Acc} (G : Good c) {x : Acc} (hpos : 1 ≤ x.code) (hgt : ∀ a ∈ c, a.code < x.code)
    (hp : x.parent = 0 ∨ ∃ p ∈ c, p.code = x.parent ∧ p.kind = x.kind ∧ (way c 13 p.code).length ≤ 11) : Good (c ++ [x]) := by
  have hpar : ∀ a ∈ c, a.parent ≠ x.code := by
    intro a ha e
    rcases G.parent a ha with h0 | ⟨p, hpc, e2, hlt, _⟩
    · omega
    · have := hgt p hpc
      omega
  have hs : Sorted (c ++ [x]) := by
    unfold Sorted
    rw [List.pairwise_append]
    exact ⟨G.sorted, List.pairwise_singleton _ _, fun a ha b hb => by rw [List.mem_singleton.1 hb]; exact hgt a ha⟩
  refine ⟨hs, fun a ha => ?_, fun a ha => ?_, fun a ha => ?_⟩
  · rcases List.mem_append.1 ha with ha | ha
    · exact G.pos a ha
    · rw [List.mem_singleton.1 ha]; exact hpos
  · rcases List.mem_append.1 ha with ha | ha
    · rcases G.parent a ha with h0 | ⟨p, hpc, e⟩
      · exact .inl h0
      · exact .inr ⟨p, List.mem_append_left _ hpc, e⟩
    · rw [List.mem_singleton.1 ha]
      rcases hp with h0 | ⟨p, hpc, e1, e2, _⟩
      · exact .inl h0
      · exact .inr ⟨p, List.mem_append_left _ hpc, e1, hgt p hpc, e2⟩
  · rcases List.mem_append.1 ha with ha | ha
    · rw [way_snoc hpar 13 a.code (by have := hgt a ha; omega)]
      exact G.deep a ha
    · obtain rfl := List.mem_singleton.1 ha
      rw [way_in hs (List.mem_append_right _ (List.mem_singleton.2 rfl))]
      rcases hp with h0 | ⟨p, hpc, e1, e2, h3⟩
      · have hz : find (c ++ [a]) 0 = none := by
          rw [find_snoc (by omega)]
          exact find_zero G
        rw [h0, way, hz]
        simp
      · rw [way_snoc hpar 12 a.parent (by have := hgt p hpc; omega), ← e1]
        have h4 := way_mono c 12 p.code
        have h5 : (way c 12 p.code).length < 12 := by have h6 : (way c (12 + 1) p.code).length ≤ 11 := h3; omega
        have := way_stop 12 p.code h5 1
        rw [this] at h3
        simp
        omega
def NameOk (b : ByteArray) : Prop := ∃ i : Fin 5, b = ([(⟨#[67, 97, 115, 104]⟩ : ByteArray), (⟨#[97]⟩ : ByteArray), (⟨#[66, 97, 110, 107, 32, 49]⟩ : ByteArray), (⟨#[76, 111, 115, 115, 46, 120]⟩ : ByteArray), (⟨#[49, 50, 51, 52, 53, 54, 55, 56, 57, 48, 49, 50, 51, 52, 53, 54, 55, 56, 57, 48, 49, 50, 51, 52, 53, 54, 55, 56, 57, 48]⟩ : ByteArray)] : List ByteArray)[i]
/-- What a made chart is, beside good: kinds and names are right, codes small. -/
structure Made (c : List Acc) : Prop where
  good : Good c
  len : c.length ≤ 40
  names : ∀ a ∈ c, NameOk a.name
  kinds : ∀ a ∈ c, 0 ≤ a.kind ∧ a.kind ≤ 4
  small : ∀ a ∈ c, a.code ≤ 160
  nonneg : ∀ a ∈ c, 0 ≤ a.parent
theorem Made.nil : Made [] := ⟨Good.nil, by simp, by simp, by simp, by simp, by simp⟩
theorem Made.snoc {c : List Acc} (M : Made c) {x : Acc} (hl : c.length < 40) (hpos : 1 ≤ x.code) (hgt : ∀ a ∈ c, a.code < x.code)
    (hp : x.parent = 0 ∨ ∃ p ∈ c, p.code = x.parent ∧ p.kind = x.kind ∧ (way c 13 p.code).length ≤ 11) (hn : NameOk x.name) (hk : 0 ≤ x.kind ∧ x.kind ≤ 4) (hs : x.code ≤ 160) : Made (c ++ [x]) := by
  refine ⟨M.good.snoc hpos hgt hp, by simp; omega, ?_, ?_, ?_, ?_⟩ <;> intro a ha <;> rcases List.mem_append.1 ha with ha | ha
  · exact M.names a ha
  · rw [List.mem_singleton.1 ha]; exact hn
  · exact M.kinds a ha
  · rw [List.mem_singleton.1 ha]; exact hk
  · exact M.small a ha
  · rw [List.mem_singleton.1 ha]; exact hs
  · exact M.nonneg a ha
  · rw [List.mem_singleton.1 ha]
    rcases hp with h | ⟨p, hpc, e, _⟩
    · omega
    · have := M.good.pos p hpc
      omega
end Go.Proofs.YtddaogebacigbaaGreatDoor.RV.ChartMath
end
