/- A part of the evaluator over abstract values, and that it is right (RvS). Conditions: none. -/
import Derived.Test.YtddaogebacigbaaGreatDoorRvR
set_option linter.constructorNameAsVariable false
namespace Go.Proofs.YtddaogebacigbaaGreatDoor.RV
open Go.RowKit (Below)

section
variable {cfg : Cfg} {O0 : Nat → Prop} {ι : Iota} {w : World} {s : St} {a : Act} {drawOK : Cfg → FuncId → Array Oper → Bool} {X : Run}

theorem V.undefP {O : Nat → Prop} : V w O ι RV.undefP undef := V.tup_iff.2 ⟨#[], rfl, VL.nil_iff.2 rfl⟩

theorem effA_sound (hC : CfgOK cfg drawOK) (hX : XOK cfg drawOK X) (hR : Rel cfg O0 ι s a w) {cur : FuncId} {ops : Array Oper} {base i : Nat} {o : Oper} {p : PV} {H' : Heap} {m' : Nat} {K : Act → World → Prop} {Q : Exit → Act → World → Prop}
    (ho : ops[i]? = some o) (h : effA cfg X cur ops base i o s.env s.H s.m = some (p, H', m'))
    (hK : ∀ x w' ι', Inv cfg O0 ι' H' w' → Step ι s.H w ι' H' w' → V w' (Owns O0 ι' H') ι' p x → K (a.put o.dst x) w') : wpOp cfg.P ops Q i K a w := by
  have hO : ∀ b, Owns O0 ι s.H b → b < w.heap.size := fun b hb => hR.inv.owns_lt hb
  have hE := evO_sound hR
  have grown : H' = s.H → ∀ x w', Grown w w' → V w' (Owns O0 ι s.H) ι p x → K (a.put o.dst x) w' := fun e x w' hg hv => by
    subst e
    exact hK x w' ι (hR.inv.grown hg) hg.step hv
  unfold wpOp
  rw [ho]
  simp only [want_eq hR]
  unfold effA at h
  split at h
  · rename_i hw
    cases h
    rw [if_neg (by simp [hw])]
    exact hK undef w ι hR.inv .refl V.undefP
  · rename_i hw
    rw [if_pos (by simp [hw])]
    left
    split at h
    · -- pure
      split at h <;> cases h
      rename_i hp
      unfold effPure at hp
      split at hp
      · rename_i g xs hcal
        split at hp
        · rename_i args hargs
          obtain ⟨hc, hrun⟩ := pureCall_sound hC hX hR.inv.base (evOs_sound hE hargs) hp
          exact wp_call (by rw [run_callee hcal, hrun]) hc fun x w' ⟨hg, hv⟩ => grown rfl x w' hg hv.lift
        · cases hp
      · obtain ⟨x, w', hr, hg, hv⟩ := aopPure_sound hO hE hp
        exact wp_value hr (grown rfl x w' hg hv)
    · -- new
      split at h
      · rename_i q ob hnew
        split at h
        · rename_i hn
          cases h
          refine newOf_sound hC hX hR hnew fun x w' L hg hb hR2 => ?_
          have := hR.inv.new hn hg hb hR2
          exact hK x w' _ this.1 this.2.1 this.2.2
        · cases h
      · cases h
    · -- read
      split at h <;> cases h
      rename_i hp
      unfold effRead at hp
      split at hp
      · rename_i g xs hcal
        split at hp
        · rename_i args hargs
          split at hp
          · rename_i args' hdeep
            split at hp
            · rename_i q hcall
              split at hp <;> cases hp
              rename_i hflat
              have hvals := deepenL_sound hR.inv (evOs_sound hE hargs) hdeep
              have hc := callPure_sound (O := O0) hC hX hR.inv.base0 hvals hcall
              refine wp_call (Φ := fun x w' => Grown w w' ∧ V w' O0 iota0 p x) (by rw [run_callee hcal, enter_fn hC (callPure_fns hcall)]) hc ?_
              exact fun x w' ⟨hg, hv⟩ => grown rfl x w' hg (flatB_sound p hv hflat)
            · cases hp
          · cases hp
        · cases hp
      · obtain ⟨x, hr, hv⟩ := aopRead_sound hR.inv hE hp
        exact wp_value hr (grown rfl x w .refl hv)
    · -- write
      split at h <;> cases h
      rename_i hp
      unfold effWrite at hp
      split at hp
      · rename_i hn
        split at hp <;> cases hp
        rename_i d hd
        obtain ⟨x, w', hdo, ι', h1, h2, h3⟩ := aopWrite_sound hR.inv hn hE hd
        exact wp_does hdo (hK x w' ι' h1 h2 h3)
      · cases hp
    · -- wild
      rename_i hcls
      clear hcls hw
      unfold effWild at h
      split at h
      rotate_left
      · cases h
      rename_i c hop
      split at h
      rotate_left
      · cases h
      rename_i f hcallee
      obtain ⟨dst, op, ty, pos, after, guard⟩ := o
      obtain ⟨callee, args, argTypes⟩ := c
      simp only at hop hcallee
      subst hop hcallee
      split at h
      · rename_i g first caps args' hf hargs
        obtain ⟨ys, xs, hff, hys, hxs⟩ := V.clo_iff.1 (hE f _ hf)
        have hvals : VL w (Owns O0 ι s.H) ι (first ++ (args' ++ caps)) (ys.toList ++ (args.toList.map a.eval ++ xs.toList)) := hys.append ((evOs_sound hE hargs).append hxs)
        have hrun : (execOp a.eval ⟨dst, .call ⟨.value f, args, argTypes⟩, ty, pos, after, guard⟩).run cfg.P w = (callFunc g (ys.toList ++ (args.toList.map a.eval ++ xs.toList)).toArray).run cfg.P w := by
          have e : (ys.toList ++ (args.toList.map a.eval ++ xs.toList)).toArray = ys ++ args.map a.eval ++ xs := by apply Array.ext'; simp
          rw [e]
          simp [execOp, resolve, hff, Deferred.ofValue, invoke]
        split at h
        · rename_i hm
          have hc := callA_sound hC hX hR.inv hvals h
          refine wp_call (Φ := fun x w' => ∃ ι', Inv cfg O0 ι' H' w' ∧ Step ι s.H w ι' H' w' ∧ V w' (Owns O0 ι' H') ι' p x) (by rw [hrun, enter_fn hC (callA_fns h)]) (hc.mono ?_) ?_
          · rintro e w' ⟨x, ι', rfl, r⟩
            exact ⟨x, rfl, ι', r⟩
          · rintro x w' ⟨ι', h1, h2, h3⟩
            exact hK x w' ι' h1 h2 h3
        · split at h <;> cases h
          rename_i hp
          obtain ⟨hc, hrun2⟩ := pureCall_sound hC hX hR.inv.base hvals hp
          exact wp_call (by rw [hrun, hrun2]) hc fun x w' ⟨hg, hv⟩ => grown rfl x w' hg hv.lift
      · cases h

theorem stepA_sound (hC : CfgOK cfg drawOK) (hX : XOK cfg drawOK X) (hR : Rel cfg O0 ι s a w) {cur : FuncId} {ops : Array Oper} {base i : Nat} {o : Oper} {s' : St} {K : Act → World → Prop} {Q : Exit → Act → World → Prop}
    (ho : ops[i]? = some o) (h : stepA cfg X cur ops base i o s = some s') (hK : ∀ a' w' ι', Rel cfg O0 ι' s' a' w' → Step ι s.H w ι' s'.H w' → K a' w') : wpOp cfg.P ops Q i K a w := by
  unfold stepA at h
  split at h
  · rename_i p H m heff
    refine effA_sound hC hX hR ho heff fun x w' ι' h1 h2 h3 => ?_
    obtain ⟨h4, h5⟩ := hR.setD h2 h1 h3 h
    exact hK _ _ _ h4 (by rw [h5]; exact h2)
  · cases h

/-- In the order of the text. -/
theorem runOps_sound (hC : CfgOK cfg drawOK) (hX : XOK cfg drawOK X) {cur : FuncId} {ops : Array Oper} {base : Nat} {Q : Exit → Act → World → Prop} {sf : St} : ∀ (os : List Oper) (i : Nat) {s : St} {a : Act} {w : World} {ι : Iota},
    Rel cfg O0 ι s a w → (∀ j, os[j]? = ops[i + j]?) → runOps cfg X cur ops base os i s = some sf → (∀ a' w' ι', Rel cfg O0 ι' sf a' w' → Step ι s.H w ι' sf.H w' → Q .normal a' w') → wpOps cfg.P ops Q (List.range' i os.length) a w
  | [], i, s, a, w, ι, hR, _, h, hQ => by
    simp only [runOps, Option.some.injEq] at h
    subst h
    exact hQ a w ι hR .refl
  | o :: os, i, s, a, w, ι, hR, hos, h, hQ => by
    unfold runOps at h
    split at h
    · rename_i s' hs
      have h0 : ops[i]? = some o := by simpa using (hos 0).symm
      rw [List.length_cons, List.range'_succ, wpOps_cons]
      refine stepA_sound hC hX hR h0 hs fun a' w' ι' hR' hS => ?_
      exact runOps_sound hC hX os (i + 1) hR' (fun j => by have := hos (j + 1); simpa [Nat.add_assoc, Nat.add_comm 1 j] using this) h (fun a2 w2 ι2 hR2 hS2 => hQ a2 w2 ι2 hR2 (hS.trans hS2))
    · cases h
end
end Go.Proofs.YtddaogebacigbaaGreatDoor.RV
