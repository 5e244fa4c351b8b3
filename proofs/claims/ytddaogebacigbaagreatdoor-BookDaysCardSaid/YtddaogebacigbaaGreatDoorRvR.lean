/- A part of the evaluator over abstract values, and that it is right (RvR). Conditions: none. -/
import Derived.Test.YtddaogebacigbaaGreatDoorRvQ
set_option linter.constructorNameAsVariable false
namespace Go.Proofs.YtddaogebacigbaaGreatDoor.RV
open Go.RowKit (Below)

section
variable {cfg : Cfg} {O0 : Nat → Prop} {ι : Iota} {w : World} {s : St} {a : Act}

theorem evO_sound (hR : Rel cfg O0 ι s a w) : ∀ x q, evO cfg s.env x = some q → V w (Owns O0 ι s.H) ι q (a.eval x) := by
  intro x q h
  cases x with
  | tmp t => simp only [evO, Option.some.injEq] at h; subst h; exact hR.env t
  | const v => simp only [evO, Option.some.injEq] at h; subst h; exact V.ofVal v
  | global g =>
    simp only [evO] at h
    split at h <;> cases h
    rename_i l hl
    exact (hR.inv.glob g l hl).lift
  | func f =>
    simp only [evO, Option.some.injEq] at h
    subst h
    exact V.clo_iff.2 ⟨#[], #[], rfl, VL.nil_iff.2 rfl, VL.nil_iff.2 rfl⟩

theorem V.bool {O : Nat → Prop} {p : PV} {b : Bool} (h : V w O ι p (.bool b)) : p = .lit (.bool b) := by
  cases p with
  | lit v => obtain rfl := V.lit_iff.1 h; rfl
  | _ => simp [V] at h

theorem yield_eq (hR : Rel cfg O0 ι s a w) (ops : Array Oper) (j : Nat) : yielded ops a.tmps j = yieldA s.env ops j := by
  unfold yielded yieldA
  cases ho : ops[j]? with
  | none => rfl
  | some o =>
    cases hd : o.dst with
    | none => simp [hd]
    | some d =>
      have hv := hR.env d
      simp only [Option.bind_some, hd]
      have e : a.tmps.getD d undef = (a.tmps[d]?).getD undef := by simp
      rw [e] at hv
      cases ht : a.tmps[d]? with
      | none =>
        rw [ht] at hv
        simp only [Option.getD_none] at hv
        split
        · rename_i h; cases h
        · split
          · rename_i b hb
            rw [hb] at hv
            have := V.lit_iff.1 hv
            simp [undef] at this
          · rfl
      | some x =>
        rw [ht] at hv
        simp only [Option.getD_some] at hv
        cases x with
        | bool b =>
          rw [V.bool hv]
        | _ =>
          simp only
          split
          · rename_i b hb
            rw [hb] at hv
            have := V.lit_iff.1 hv
            cases this
          · rfl

theorem want_eq (hR : Rel cfg O0 ι s a w) (ops : Array Oper) (o : Oper) : Region.wanted o (yielded ops a.tmps) = wantA s.env ops o := by
  unfold Region.wanted wantA
  cases o.guard with
  | none => rfl
  | some g =>
    simp only [yield_eq hR]
    cases yieldA s.env ops g.1 <;> simp

theorem wp_value {o : Oper} {x : Value} {w' : World} {K : Act → World → Prop} {Q : Exit → Act → World → Prop} {P : Program} (h : (execOp a.eval o).run P w = .ok (.value x) w') (hK : K (a.put o.dst x) w') : o.wp P a w K Q := by
  unfold Oper.wp
  rw [h]
  exact hK
theorem wp_does {o : Oper} {x : Value} {w' : World} {K : Act → World → Prop} {Q : Exit → Act → World → Prop} {P : Program} (h : Does ((execOp a.eval o).run P w) x w') (hK : K (a.put o.dst x) w') : o.wp P a w K Q := by
  unfold Oper.wp
  rcases h with h | ⟨h, rfl⟩ <;> rw [h] <;> exact hK
theorem wp_call {o : Oper} {g : FuncId} {args : Array Value} {K : Act → World → Prop} {Q : Exit → Act → World → Prop} {P : Program} {Φ : Value → World → Prop} (h : (execOp a.eval o).run P w = .ok (.enter g args) w)
    (hc : Calls P g args w fun e w' => ∃ x, e = .returned x ∧ Φ x w') (hK : ∀ x w', Φ x w' → K (a.put o.dst x) w') : o.wp P a w K Q := by
  unfold Oper.wp
  rw [h]
  exact hc.mono fun e w' ⟨x, he, hx⟩ => by subst he; exact hK x w' hx

theorem run_enter {P : Program} {g : FuncId} {fn : Func} {args : Array Value} (hf : P.funcs[g]? = some fn) (hn : fn.name ≠ "runtime.NumGoroutine") (hb : fn.body.isSome = true) : (callFunc g args).run P w = .ok (.enter g args) w := by
  obtain ⟨c, hc⟩ := Option.isSome_iff_exists.1 hb
  simp [callFunc, program, Sem.run, hf, hn, hc]

variable {drawOK : Cfg → FuncId → Array Oper → Bool} {X : Run}

theorem enter_fn (hC : CfgOK cfg drawOK) {g : FuncId} {args : Array Value} (h : cfg.fns g = true) : (callFunc g args).run cfg.P w = .ok (.enter g args) w := by
  have hok := hC.fn g h
  unfold fnOK at hok
  split at hok
  · rename_i fn hfn
    simp only [Bool.and_eq_true, bne_iff_ne, ne_eq] at hok
    refine run_enter hfn hok.1 ?_
    cases hb : fn.body with
    | none => rw [hb] at hok; simp at hok
    | some c => rfl
  · cases hok

theorem callA_fns {f : FuncId} {args : List PV} {H : Heap} {m : Nat} {r : PV × Heap × Nat} (h : callA cfg X f args H m = some r) : cfg.fns f = true := by
  unfold callA at h
  split at h
  · cases h
  · rename_i h'; simpa using h'

theorem callPure_fns {f : FuncId} {args : List PV} {p : PV} (h : callPure cfg X f args = some p) : cfg.fns f = true := by
  unfold callPure at h
  split at h
  · cases h
  · split at h
    · rename_i hc; exact callA_fns hc
    · cases h

theorem run_callee {o : Oper} {g : FuncId} {xs : List Operand} (h : callee? o.op = some (g, xs)) : (execOp a.eval o).run cfg.P w = (callFunc g (xs.map a.eval).toArray).run cfg.P w := by
  obtain ⟨dst, op, ty, pos, after, guard⟩ := o
  cases op <;> simp only [callee?] at h <;> try cases h
  rename_i c
  obtain ⟨callee, args, argTypes⟩ := c
  cases callee <;> simp only at h <;> try cases h
  rename_i f
  cases f <;> simp only at h <;> cases h
  have e : (args.toList.map a.eval).toArray = args.map a.eval := by apply Array.ext'; simp
  rw [e]
  simp [execOp, resolve, Deferred.ofValue, Act.eval, invoke]

theorem pureCall_sound (hC : CfgOK cfg drawOK) (hX : XOK cfg drawOK X) {f : FuncId} {args : List PV} {vals : List Value} {p : PV} {O : Nat → Prop} (hB : Base cfg O w)
    (hargs : VL w O ι args vals) (h : pureCall cfg X f args = some p) :
    (Calls cfg.P f vals.toArray w fun e w' => ∃ x, e = .returned x ∧ (Grown w w' ∧ V w' O iota0 p x)) ∧ ∀ args, (callFunc f args).run cfg.P w = .ok (.enter f args) w := by
  unfold pureCall at h
  split at h
  · exact ⟨callPure_sound hC hX hB hargs h, fun args => enter_fn hC (callPure_fns h)⟩
  · rename_i hm
    split at h
    · rename_i hd
      obtain ⟨fn, h1, h2, h3⟩ := hC.told f hm
      exact ⟨hC.spec f args p hm h w O vals hB (deepL_sound args hargs hd), fun args => run_enter h1 h2 h3⟩
    · cases h
  · cases h

theorem newOf_sound (hC : CfgOK cfg drawOK) (hX : XOK cfg drawOK X) (hR : Rel cfg O0 ι s a w) {o : Oper} {p : PV} {ob : HObj} {id : Nat} {K : Act → World → Prop} {Q : Exit → Act → World → Prop} (h : newOf cfg X s.env o id = some (p, ob))
    (hK : ∀ x w' L, Grown w w' → w.heap.size ≤ L.b → (∀ O' ι', Ext w (Owns O0 ι s.H) ι w' O' ι' → (∀ b, O' b → Owns O0 ι s.H b ∨ b = L.b) → ι' id 0 = some L → V w' O' ι' p x ∧ ObjR w' O' ι' L ob) → K (a.put o.dst x) w') : o.wp cfg.P a w K Q := by
  unfold newOf at h
  split at h
  · rename_i g xs hcal
    split at h
    · rename_i args hargs
      have hvals := evOs_sound (evO_sound hR) hargs
      unfold importA at h
      split at h
      · cases h
      rename_i hd
      split at h
      · rename_i i v s1 off len cap H1 m1 hcall
        split at h
        · rename_i s2 l1 ho
          split at h <;> cases h
          rename_i hc
          obtain ⟨rfl, rfl, rfl, hdl⟩ := hc
          have hI := Inv.empty hR.inv.base
          have hargs' : VL w (Owns (Owns O0 ι s.H) iota0 .e) iota0 args (xs.map a.eval) := VL.mono (O := Owns O0 ι s.H) ⟨fun b _ hb => ⟨fun hh => hb (hh.elim (fun h => h) fun ⟨id, ver, o, L, h, _⟩ => by cases h), rfl⟩, fun _ _ _ h => h⟩ _ _ (deepL_sound args hvals hd)
          refine wp_call (Φ := fun x w' => ∃ L, Grown w w' ∧ w.heap.size ≤ L.b ∧ ∀ O' ι', Ext w (Owns O0 ι s.H) ι w' O' ι' → (∀ b, O' b → Owns O0 ι s.H b ∨ b = L.b) → ι' id 0 = some L → V w' O' ι' (.own id 0 s1 0 l1.length cap) x ∧ ObjR w' O' ι' L (.blk s1 l1 true)) ?_ ((callA_sound hC hX hI hargs' hcall).mono ?_) ?_
          · rw [run_callee hcal, enter_fn hC (callA_fns hcall)]
          · rintro e w' ⟨x, ι1, rfl, hI1, hS, hv⟩
            refine ⟨x, rfl, ?_⟩
            have hgr := hS.grown0
            have hgk := obj_spec ho
            obtain ⟨L, c, hL, hs, rfl, hce, hlc, hcap⟩ := V.own_iff.1 hv
            obtain ⟨L', hL', hs', hcells, hlen, hVE, _⟩ := hI1.obj _ _ _ hgk
            rw [hL] at hL'
            cases hL'
            have hown : Own ι1 H1 L.b := ⟨i, v, _, L, hgk, rfl, hL, rfl⟩
            have hge : w.heap.size ≤ L.b := (hS.grow _ hown).elim (fun ⟨id, ver, o, L, h, _⟩ => by cases h) (fun h => h)
            refine ⟨L, hgr, hge, fun O' ι' he hO' hL2 => ⟨V.own_iff.2 ⟨L, c, hL2, hs, rfl, hce, hlc, hcap⟩, hs', hcells, hlen, ?_, fun h => by cases h⟩⟩
            refine VE.of_get fun j q hq => ?_
            obtain ⟨y, hy, hys, hc⟩ := hVE.get j q hq
            refine ⟨y, ?_, hys, hc⟩
            have hdq : deepB q = true := by
              have : ∀ (l : List PV), deepL l = true → ∀ q ∈ l, deepB q = true := by
                intro l
                induction l with
                | nil => intro _ q h; cases h
                | cons a l ih =>
                  intro h q hq
                  simp only [deepL, Bool.and_eq_true] at h
                  rcases List.mem_cons.1 hq with rfl | hq
                  · exact h.1
                  · exact ih h.2 q hq
              exact this l1 hdl q (List.mem_of_getElem? hq)
            refine V.mono (O := Owns (Owns O0 ι s.H) ι1 H1) (ι := iota0) ⟨fun b hb hO2 => ⟨fun hh => hO2 ?_, rfl⟩, fun _ _ _ h => by cases h⟩ _ _ (deepB_sound q hy hdq)
            rcases hO' b hh with h | h
            · exact .inl h
            · rw [h]; exact .inr hown
          · rintro x w' ⟨L, h1, h2, h3⟩
            exact hK x w' L h1 h2 h3
        · cases h
      · cases h
    · cases h
  · obtain ⟨x, w', L, hr, hg, hb, _, hR2⟩ := aopNew_sound (evO_sound hR) h
    exact wp_value hr (hK x w' L hg (by omega) fun O' ι' he _ hL => hR2 O' ι' he hL)
end
end Go.Proofs.YtddaogebacigbaaGreatDoor.RV
