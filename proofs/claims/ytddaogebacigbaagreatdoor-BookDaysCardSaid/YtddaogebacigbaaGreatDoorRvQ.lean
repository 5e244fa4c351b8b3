/- A part of the evaluator over abstract values, and that it is right (RvQ). Conditions: none. -/
import Derived.Test.YtddaogebacigbaaGreatDoorRvP
set_option linter.constructorNameAsVariable false
namespace Go.Proofs.YtddaogebacigbaaGreatDoor.RV
open Go.RowKit (Below)

section
variable {cfg : Cfg} {O0 : Nat → Prop} {ι : Iota} {H : Heap} {w : World} {env : Env} {O : Nat → Prop}

theorem VL.of_get : ∀ {l : List PV} {xs : List Value}, xs.length = l.length → (∀ (i : Nat) (p : PV), l[i]? = some p → ∃ x, xs[i]? = some x ∧ V w O ι p x) → VL w O ι l xs
  | [], xs, h, _ => VL.nil_iff.2 (List.eq_nil_of_length_eq_zero h)
  | p :: ps, [], h, _ => by simp at h
  | p :: ps, x :: xs, h, hg => by
    obtain ⟨y, hy, hv⟩ := hg 0 p (by simp)
    simp at hy
    subst hy
    exact VL.cons hv (VL.of_get (by simpa using h) fun i q hq => by simpa using hg (i + 1) q (by simpa using hq))

theorem deepenL_get : ∀ (k : Nat) {l l' : List PV}, deepenL H k l = some l' → l'.length = l.length ∧ ∀ (i : Nat) (p' : PV), l'[i]? = some p' → ∃ p k', k' < k ∧ l[i]? = some p ∧ deepen H k' p = some p'
  | 0, l, l', h => by
    unfold deepenL at h
    split at h <;> cases h
    exact ⟨rfl, fun i p' h => by simp at h⟩
  | k + 1, l, l', h => by
    unfold deepenL at h
    split at h
    · cases h; exact ⟨rfl, fun i p' h => by simp at h⟩
    · rename_i p ps
      split at h
      · rename_i q hq
        split at h <;> cases h
        rename_i qs hqs
        obtain ⟨h1, h2⟩ := deepenL_get k hqs
        refine ⟨by simp [h1], fun i p' hp => ?_⟩
        cases i with
        | zero => simp at hp; subst hp; exact ⟨p, k, by omega, by simp, hq⟩
        | succ i =>
          obtain ⟨p2, k', hk, h3, h4⟩ := h2 i p' (by simpa using hp)
          exact ⟨p2, k', by omega, by simpa using h3, h4⟩
      · cases h

theorem deepen_sound (hI : Inv cfg O0 ι H w) : ∀ (k : Nat) {p p' : PV} {x : Value}, V w (Owns O0 ι H) ι p x → deepen H k p = some p' → V w O0 iota0 p' x := by
  intro k
  induction k using Nat.strongRecOn with
  | _ k ih =>
    intro p p' x hv h
    have hL : ∀ {k'} {l l' : List PV} {xs : List Value}, k' < k → VL w (Owns O0 ι H) ι l xs → deepenL H k' l = some l' → VL w O0 iota0 l' xs := by
      intro k' l l' xs hk hl hd
      obtain ⟨h1, h2⟩ := deepenL_get k' hd
      refine VL.of_get (by rw [h1]; exact hl.length) fun i q hq => ?_
      obtain ⟨q0, k2, hk2, h3, h4⟩ := h2 i q hq
      obtain ⟨y, hy, hVy⟩ := hl.get i q0 h3
      exact ⟨y, hy, ih k2 (by omega) hVy h4⟩
    have deep : ∀ {q : PV}, V w (Owns O0 ι H) iota0 q x → V w O0 iota0 q x := fun h => h.anti fun b hb => .inl hb
    have notO : ∀ {id ver : Nat} {s : Nat} {l : List PV} {live : Bool} {L : Loc}, H.get id = some (ver, .blk s l live) → ι id ver = some L → ObjR w (Owns O0 ι H) ι L (.blk s l live) → ¬ O0 L.b := by
      intro id ver s l live L hg hL ho hO
      cases live with
      | true => exact (hI.foreign _ hO).2 ⟨id, ver, _, L, hg, rfl, hL, rfl⟩
      | false =>
        obtain ⟨_, _, _, _, h5⟩ := ho
        exact h5 rfl (.inl hO)
    cases k with
    | zero => simp [deepen] at h
    | succ k =>
      unfold deepen at h
      split at h
      · cases h; exact V.lit_iff.2 (V.lit_iff.1 hv)
      · cases h; exact deep (by simp only [V] at hv ⊢; exact hv)
      · cases h; exact deep (by simp only [V] at hv ⊢; exact hv)
      · split at h <;> cases h
        rename_i l' hl'
        obtain ⟨xs, rfl, hl⟩ := V.agg_iff.1 hv
        exact V.agg_iff.2 ⟨xs, rfl, hL (by omega) hl hl'⟩
      · split at h <;> cases h
        rename_i l' hl'
        obtain ⟨xs, rfl, hl⟩ := V.tup_iff.1 hv
        exact V.tup_iff.2 ⟨xs, rfl, hL (by omega) hl hl'⟩
      · split at h <;> try cases h
        rename_i a' ha'
        split at h <;> cases h
        rename_i l' hl'
        obtain ⟨ys, xs, rfl, ha, hl⟩ := V.clo_iff.1 hv
        exact V.clo_iff.2 ⟨ys, xs, rfl, hL (by omega) ha ha', hL (by omega) hl hl'⟩
      · split at h <;> cases h
        rename_i v' hv'
        simp only [V] at hv ⊢
        obtain ⟨y, rfl, hy⟩ := hv
        exact ⟨y, rfl, ih k (by omega) hy hv'⟩
      · rename_i id ver s off len cap
        split at h
        · rename_i s' l live ho
          split at h <;> try cases h
          rename_i hc
          obtain ⟨rfl, hle⟩ := hc
          split at h <;> cases h
          rename_i l' hl'
          have hgk := obj_spec ho
          obtain ⟨L, c, hLL, hs, rfl, hce, hlc, hcap⟩ := V.own_iff.1 hv
          obtain ⟨L', hL', hob⟩ := hI.obj _ _ _ hgk
          rw [hLL] at hL'
          cases hL'
          have hno := notO hgk hLL hob
          obtain ⟨_, _, _, hVE, _⟩ := hob
          obtain ⟨h1, h2⟩ := deepenL_get k hl'
          have hlen : l'.length = len := by rw [h1]; simp; omega
          refine V.dsl_iff.2 ⟨some ⟨L.b, L.base + off * s, none⟩, c, by rw [hlen], by omega, hcap, .inr ⟨_, _, rfl, hno, VE.of_get fun i q hq => ?_⟩⟩
          obtain ⟨q0, k2, hk2, h3, h4⟩ := h2 i q hq
          obtain ⟨y, hy, hys, hc⟩ := ((hVE.drop off).take len).get i q0 h3
          exact ⟨y, ih k2 (by omega) hy h4, hys, hc⟩
        · cases h
      · rename_i id ver idx off
        split at h
        · rename_i s l live ho
          split at h
          · rename_i e he
            split at h <;> cases h
            rename_i l' hl'
            have hgk := obj_spec ho
            obtain ⟨L, hLL, rfl⟩ := V.ptr_iff.1 hv
            obtain ⟨L', hL', hob⟩ := hI.obj _ _ _ hgk
            rw [hLL] at hL'
            cases hL'
            have hno := notO hgk hLL hob
            obtain ⟨hs, _, _, hVE, _⟩ := hob
            obtain ⟨y, hy, _, hc⟩ := hVE.get idx e he
            rw [hs]
            exact V.dptr_iff.2 ⟨L.b, L.base + idx * s, _, rfl, hno, hc, hL (by omega) hy.cells hl'⟩
          · cases h
        · cases h
      · rename_i id ver
        split at h
        · rename_i ks vs bs clock ho
          split at h <;> cases h
          rename_i vs' hvs'
          have hgk := obj_spec ho
          simp only [V] at hv ⊢
          obtain ⟨L, hLL, rfl⟩ := hv
          obtain ⟨L', hL', ents, hb, hk, hbs, hvl⟩ := hI.obj _ _ _ hgk
          rw [hLL] at hL'
          cases hL'
          exact ⟨L.b, ents, rfl, fun hO => (hI.foreign _ hO).2 ⟨id, ver, _, L, hgk, rfl, hLL, rfl⟩, hb, hk, hbs, hL (by omega) hvl hvs'⟩
        · cases h
      · cases h; exact deep (by simp only [V] at hv ⊢; exact hv)
      · cases h

theorem deepenL_sound (hI : Inv cfg O0 ι H w) {k : Nat} {l l' : List PV} {xs : List Value} (hl : VL w (Owns O0 ι H) ι l xs) (h : deepenL H k l = some l') : VL w O0 iota0 l' xs := by
  obtain ⟨h1, h2⟩ := deepenL_get k h
  refine VL.of_get (by rw [h1]; exact hl.length) fun i q hq => ?_
  obtain ⟨q0, k2, hk2, h3, h4⟩ := h2 i q hq
  obtain ⟨y, hy, hVy⟩ := hl.get i q0 h3
  exact ⟨y, hy, deepen_sound hI k2 hVy h4⟩

mutual
theorem flatB_sound {w' : World} {O' : Nat → Prop} {ι' : Iota} : ∀ (p : PV) {x : Value}, V w O ι p x → flatB p = true → V w' O' ι' p x
  | .lit _, _, h, _ => by simp only [V] at h ⊢; exact h
  | .agg l, _, h, hd => by
    obtain ⟨xs, rfl, hl⟩ := V.agg_iff.1 h
    exact V.agg_iff.2 ⟨xs, rfl, flatL_sound l hl (by simpa [flatB] using hd)⟩
  | .tup l, _, h, hd => by
    obtain ⟨xs, rfl, hl⟩ := V.tup_iff.1 h
    exact V.tup_iff.2 ⟨xs, rfl, flatL_sound l hl (by simpa [flatB] using hd)⟩
  | .clo .., _, _, hd => by simp [flatB] at hd
  | .iface .., _, _, hd => by simp [flatB] at hd
  | .dsl .., _, _, hd => by simp [flatB] at hd
  | .dptr .., _, _, hd => by simp [flatB] at hd
  | .dmap .., _, _, hd => by simp [flatB] at hd
  | .own .., _, _, hd => by simp [flatB] at hd
  | .ptr .., _, _, hd => by simp [flatB] at hd
  | .map .., _, _, hd => by simp [flatB] at hd
  | .iter .., _, _, hd => by simp [flatB] at hd
  | .asl .., _, _, hd => by simp [flatB] at hd
theorem flatL_sound {w' : World} {O' : Nat → Prop} {ι' : Iota} : ∀ (l : List PV) {xs : List Value}, VL w O ι l xs → flatL l = true → VL w' O' ι' l xs
  | [], _, h, _ => by rw [VL.nil_iff] at h ⊢; exact h
  | p :: ps, _, h, hd => by
    obtain ⟨y, ys, rfl, hy, hs⟩ := VL.cons_iff.1 h
    simp only [flatL, Bool.and_eq_true] at hd
    exact VL.cons (flatB_sound p hy hd.1) (flatL_sound ps hs hd.2)
end

/-! ### Calls -/
def Ex.conv : Ex → Exit
  | .normal => .normal
  | .exit id => .exit id
  | .ret => .ret

theorem envOf_get : ∀ (ps : List PV) (i : Nat) (e : Env), i + ps.length ≤ 16000000 → ∀ t, (envOf ps i e).get t = if i ≤ t ∧ t < i + ps.length then ps[t - i]? else e.get t
  | [], i, e, _, t => by simp only [envOf]; rw [if_neg (by simp)]
  | p :: ps, i, e, h, t => by
    simp only [List.length_cons] at h
    simp only [envOf, List.length_cons]
    rw [envOf_get ps (i + 1) _ (by omega) t, put_get]
    by_cases h1 : t = i
    · subst h1
      rw [if_neg (by omega), if_pos rfl, if_pos (by omega)]
      simp
    · by_cases h2 : i + 1 ≤ t ∧ t < i + 1 + ps.length
      · rw [if_pos h2, if_pos (by omega), show t - i = t - (i + 1) + 1 by omega, List.getElem?_cons_succ]
      · rw [if_neg h2, if_neg h1, if_neg (by omega)]

def codeOK (cfg : Cfg) (cur : FuncId) (drawOK : Cfg → FuncId → Array Oper → Bool) : Code → Bool
  | .region id ops d => !d || (cfg.bad cur id || drawOK cfg cur ops)
  | .seq a b | .cond _ a b => codeOK cfg cur drawOK a && codeOK cfg cur drawOK b
  | .block _ b | .loop b => codeOK cfg cur drawOK b
  | _ => true

def fnOK (cfg : Cfg) (drawOK : Cfg → FuncId → Array Oper → Bool) (f : FuncId) : Bool :=
  match cfg.P.funcs[f]? with
  | some fn => fn.name != "runtime.NumGoroutine" && (match fn.body with | some c => codeOK cfg f drawOK c | none => false)
  | none => false

/-- The world that a call begins in. -/
structure Base (cfg : Cfg) (O : Nat → Prop) (w : World) : Prop where
  lt : ∀ b, O b → b < w.heap.size
  glob : ∀ g l, cfg.glob g = some l → V w O iota0 (.dptr l 0) (.pointer (some ⟨g, 0, none⟩))
  low : ∀ b, b < cfg.gl → b < w.heap.size ∧ ¬ O b
  ginv : cfg.ginv w

theorem Inv.base (hI : Inv cfg O0 ι H w) : Base cfg (Owns O0 ι H) w := ⟨fun _ hb => hI.owns_lt hb, hI.glob, hI.low, hI.ginv⟩
theorem Inv.base0 (hI : Inv cfg O0 ι H w) : Base cfg O0 w :=
  ⟨fun b hb => (hI.foreign b hb).1, fun g l hg => (hI.glob g l hg).anti fun _ hb => .inl hb, fun b hb => ⟨(hI.low b hb).1, fun h => (hI.low b hb).2 (.inl h)⟩, hI.ginv⟩

/-- What is asked of the functions, and of the told answers. -/
structure CfgOK (cfg : Cfg) (drawOK : Cfg → FuncId → Array Oper → Bool) : Prop where
  mixed : cfg.P.follows .mixedOrders = true
  fn : ∀ f, cfg.fns f = true → fnOK cfg drawOK f = true
  told : ∀ f, cfg.mode f = 3 → ∃ fn, cfg.P.funcs[f]? = some fn ∧ fn.name ≠ "runtime.NumGoroutine" ∧ fn.body.isSome = true
  spec : ∀ f args p, cfg.mode f = 3 → cfg.spec f args = some p → ∀ (w : World) (O : Nat → Prop) (vals : List Value), Base cfg O w → VL w O iota0 args vals →
    Calls cfg.P f vals.toArray w fun e w' => ∃ x, e = .returned x ∧ Grown w w' ∧ V w' O iota0 p x

def XOK (cfg : Cfg) (drawOK : Cfg → FuncId → Array Oper → Bool) (X : Run) : Prop :=
  ∀ cur c s e s', codeOK cfg cur drawOK c = true → X cur c s = some (e, s') → ∀ O0 ι a w, Rel cfg O0 ι s a w →
    c.wp cfg.P (fun ex a' w' => ex = e.conv ∧ ∃ ι', Rel cfg O0 ι' s' a' w' ∧ Step ι s.H w ι' s'.H w') a w

def resSem (a : Act) : ResultVar → Sem Value
  | .tmp t => pure (a.tmps.getD t undef)
  | .cell c t => do loadVar t (← asAddr (a.tmps.getD c undef))

theorem resOne_sound {s : St} {a : Act} {r : ResultVar} {p : PV} (hR : Rel cfg O0 ι s a w) (h : resOne cfg.P s r = some p) :
    ∃ x, (resSem a r).run cfg.P w = .ok x w ∧ V w (Owns O0 ι s.H) ι p x := by
  cases r with
  | tmp t =>
    simp only [resOne, Option.some.injEq] at h
    subst h
    exact ⟨_, rfl, hR.env t⟩
  | cell c t =>
    simp only [resOne] at h
    obtain ⟨ad, y, hx, hr, hv⟩ := loadA_sound hR.inv (hR.env c) h
    refine ⟨y, ?_, hv⟩
    show (do loadVar t (← asAddr (a.tmps.getD c undef)) : Sem Value).run cfg.P w = .ok y w
    rw [hx]
    simp [asAddr, hr]

theorem resAll_sound {s : St} {a : Act} (hR : Rel cfg O0 ι s a w) : ∀ {rs : List ResultVar} {ps : List PV}, resAll cfg.P s rs = some ps →
    ∃ xs, (rs.mapM (resSem a)).run cfg.P w = .ok xs w ∧ VL w (Owns O0 ι s.H) ι ps xs
  | [], ps, h => by simp only [resAll, Option.some.injEq] at h; subst h; exact ⟨[], by simp, VL.nil_iff.2 rfl⟩
  | r :: rs, ps, h => by
    unfold resAll at h
    split at h
    · rename_i p hp
      split at h <;> cases h
      rename_i qs hqs
      obtain ⟨x, hx, hv⟩ := resOne_sound hR hp
      obtain ⟨xs, hxs, hvs⟩ := resAll_sound hR hqs
      refine ⟨x :: xs, ?_, VL.cons hv hvs⟩
      rw [List.mapM_cons]
      simp only [Sem.run_bind, hx, Result.andThen_ok, hxs, Sem.run_pure]
    · cases h

theorem results_eq {fn : Func} {a : Act} : results fn a.tmps = (do let vs ← fn.results.mapM (resSem a); pure (if h : vs.size = 1 then vs[0] else .tuple vs)) := by
  unfold results
  congr

theorem resA_sound {fn : Func} {s : St} {a : Act} {p : PV} (hR : Rel cfg O0 ι s a w) (h : resA cfg.P s fn.results.toList = some p) : ∃ x, (results fn a.tmps).run cfg.P w = .ok x w ∧ V w (Owns O0 ι s.H) ι p x := by
  unfold resA at h
  have key : ∀ {ps : List PV}, resAll cfg.P s fn.results.toList = some ps → ∃ xs : List Value, VL w (Owns O0 ι s.H) ι ps xs ∧ (results fn a.tmps).run cfg.P w = .ok (if h : xs.toArray.size = 1 then xs.toArray[0] else .tuple xs.toArray) w := by
    intro ps hps
    obtain ⟨xs, hxs, hvs⟩ := resAll_sound hR hps
    refine ⟨xs, hvs, ?_⟩
    rw [results_eq, Sem.run_bind, Array.mapM_eq_mapM_toList, Sem.run_map, hxs]
    rfl
  split at h
  · rename_i q hq
    cases h
    obtain ⟨xs, hvs, hr⟩ := key hq
    obtain ⟨y, ys, rfl, hy, hys⟩ := VL.cons_iff.1 hvs
    rw [VL.nil_iff] at hys
    subst hys
    exact ⟨y, by rw [hr]; rfl, hy⟩
  · rename_i l hne hl
    cases h
    obtain ⟨xs, hvs, hr⟩ := key hl
    have hne' : ¬ xs.toArray.size = 1 := by
      simp
      intro h1
      rw [hvs.length] at h1
      match l, h1 with
      | [q], _ => exact hne q rfl
    exact ⟨.tuple xs.toArray, by rw [hr, dif_neg hne'], V.tup_iff.2 ⟨_, rfl, by simpa using hvs⟩⟩
  · cases h

theorem callA_sound {drawOK : Cfg → FuncId → Array Oper → Bool} {X : Run} (hC : CfgOK cfg drawOK) (hX : XOK cfg drawOK X) {f : FuncId} {args : List PV} {vals : List Value} {p : PV} {H' : Heap} {m m' : Nat} (hI : Inv cfg O0 ι H w)
    (hargs : VL w (Owns O0 ι H) ι args vals) (h : callA cfg X f args H m = some (p, H', m')) :
    Calls cfg.P f vals.toArray w fun e w' => ∃ x ι', e = .returned x ∧ Inv cfg O0 ι' H' w' ∧ Step ι H w ι' H' w' ∧ V w' (Owns O0 ι' H') ι' p x := by
  unfold callA at h
  split at h
  · cases h
  rename_i hfns
  split at h
  · cases h
  rename_i fn hfn
  split at h
  · cases h
  rename_i c hbody
  split at h <;> try cases h
  rename_i hnt
  split at h
  · cases h
  · rename_i e s hne hrun
    split at h <;> cases h
    rename_i hres
    have hok := hC.fn f hfns
    unfold fnOK at hok
    rw [hfn] at hok
    simp only [hbody, Bool.and_eq_true] at hok
    have hlen := hargs.length
    have hrel : Rel cfg O0 ι ⟨envOf args 0 .e, H, m, fn.ntmps⟩ { tmps := vals.toArray ++ Array.replicate (fn.ntmps - vals.toArray.size) undef, defers := [] } w := by
      refine ⟨hI, fun t => ?_, by simp; omega, hnt.2, rfl⟩
      show V w (Owns O0 ι H) ι (Env.at (envOf args 0 .e) t) _
      unfold Env.at
      rw [envOf_get args 0 .e (by omega) t]
      have hund : V w (Owns O0 ι H) ι undefP undef := V.tup_iff.2 ⟨#[], rfl, VL.nil_iff.2 rfl⟩
      by_cases ht : @LT.lt Nat _ t args.length
      · rw [if_pos (by omega)]
        obtain ⟨x, hx, hv⟩ := hargs.get t args[t] (List.getElem?_eq_getElem ht)
        have e1 : args[t - 0]? = some args[t] := by simp [ht]
        rw [e1]
        have e2 : (vals.toArray ++ Array.replicate (fn.ntmps - vals.toArray.size) undef).getD t undef = x := by
          rw [Array.getD_eq_getD_getElem?, Array.getElem?_append_left (by simp; omega)]
          simp [hx]
        rw [e2]
        exact hv
      · rw [if_neg (by omega)]
        have e2 : (vals.toArray ++ Array.replicate (fn.ntmps - vals.toArray.size) undef).getD t undef = undef := by
          rw [Array.getD_eq_getD_getElem?, Array.getElem?_append_right (by simp; omega), Array.getElem?_replicate]
          split <;> rfl
        rw [e2]
        exact hund
    refine calls_of_wp hfn hbody (Code.wp_mono ?_ (hX f c _ e s hok.2 hrun O0 ι _ w hrel))
    rintro ex a' w' ⟨rfl, ι', hR', hS⟩
    obtain ⟨x, hx, hv⟩ := resA_sound hR' hres
    cases e with
    | exit id => exact (hne id rfl).elim
    | normal => exact ⟨hR'.defers, x, hx, x, ι', rfl, hR'.inv, hS, hv⟩
    | ret => exact ⟨hR'.defers, x, hx, x, ι', rfl, hR'.inv, hS, hv⟩
  · cases h

/-- The memory of a call that begins. -/
theorem Inv.empty (hB : Base cfg O w) : Inv cfg O iota0 .e w where
  obj := fun id ver o h => by cases h
  inj := fun id id' ver ver' o o' L L' h => by cases h
  foreign := fun b hb => ⟨hB.lt b hb, fun ⟨id, ver, o, L, h, _⟩ => by cases h⟩
  glob := fun g l h => (hB.glob g l h).anti fun b hb => hb.elim id fun ⟨id, ver, o, L, h, _⟩ => by cases h
  fresh := fun id v L h => by cases h
  low := fun b hb => ⟨(hB.low b hb).1, fun h => h.elim (hB.low b hb).2 fun ⟨id, ver, o, L, h, _⟩ => by cases h⟩
  ginv := hB.ginv

theorem Step.grown0 {w' : World} {ι' : Iota} {H' : Heap} (h : Step iota0 .e w ι' H' w') : Grown w w' :=
  ⟨h.os, h.tape, h.output, h.size, fun b hb => h.keep b hb fun ⟨id, ver, o, L, h, _⟩ => by cases h⟩

theorem callPure_sound {drawOK : Cfg → FuncId → Array Oper → Bool} {X : Run} (hC : CfgOK cfg drawOK) (hX : XOK cfg drawOK X) {f : FuncId} {args : List PV} {vals : List Value} {p : PV} (hB : Base cfg O w)
    (hargs : VL w O ι args vals) (h : callPure cfg X f args = some p) :
    Calls cfg.P f vals.toArray w fun e w' => ∃ x, e = .returned x ∧ Grown w w' ∧ V w' O iota0 p x := by
  unfold callPure at h
  split at h
  · cases h
  rename_i hd
  split at h
  · rename_i q H m hcall
    have hI := Inv.empty hB
    have hargs' : VL w (Owns O iota0 .e) iota0 args vals := VL.mono (O := O) ⟨fun b _ hb => ⟨fun hh => hb (hh.elim id fun ⟨id, ver, o, L, h, _⟩ => by cases h), rfl⟩, fun _ _ _ h => h⟩ _ _ (deepL_sound args hargs hd)
    refine (callA_sound hC hX hI hargs' hcall).mono ?_
    rintro e w' ⟨x, ι', rfl, hI', hS, hv⟩
    exact ⟨x, rfl, hS.grown0, deepen_sound hI' fuelD hv h⟩
  · cases h
end
end Go.Proofs.YtddaogebacigbaaGreatDoor.RV
