/- A part of the evaluator over abstract values, and that it is right (RvO). Conditions: none. -/
import Derived.Test.YtddaogebacigbaaGreatDoorRvN
set_option linter.constructorNameAsVariable false
namespace Go.Proofs.YtddaogebacigbaaGreatDoor.RV
open Go.RowKit (Below)

section
variable {cfg : Cfg} {O0 : Nat → Prop} {ι : Iota} {H : Heap} {w : World} {env : Env} {ρ : Operand → Value} {O : Nat → Prop}

theorem copyA_sound {dt xt ty e : TypeId} {d x p : PV} {dv xv : Value} {dl : Delta} (hI : Inv cfg O0 ι H w)
    (hdt : cfg.P.underlying dt = some (.slice e)) (hd : V w (Owns O0 ι H) ι d dv) (hx : V w (Owns O0 ι H) ι x xv) (h : copyA cfg.P H e d x = some (p, dl)) :
    ∃ y w', (Builtin.copy_ #[dt, xt] ty #[dv, xv]).run cfg.P w = .ok y w' ∧ Wrote cfg O0 ι H w p dl y w' := by
  unfold copyA at h
  split at h
  · rename_i i hi
    have zero : ∀ (xs : List PV) (a : Option Addr) (c : Nat), elemsOf H i.size x = some xs → dv = .slice a 0 c → ∃ y w', (Builtin.copy_ #[dt, xt] ty #[dv, xv]).run cfg.P w = .ok y w' ∧ Wrote cfg O0 ι H w (.lit (.int .i64 0)) [] y w' := by
      intro xs a c hxs hdv
      obtain ⟨ys, hyl, hrow, hlen, hfirst, hone⟩ := elemsOf_sound hI hx hxs
      have hl0 := hlen cfg.P w
      have hf0 := hfirst cfg.P 0 (Nat.zero_le _) w rfl
      simp only [Nat.zero_mul, List.take_zero] at hf0
      refine ⟨.int .i64 0, w, ?_, wrote_none hI (V.lit_iff.2 rfl)⟩
      subst hdv
      cases a <;> simp [Builtin.copy_, run_underlying hdt, hl0, sizeOf, typeInfo, hi, hf0, goInt, storeCells]
    split at h
    · rename_i xs id ver s off len cap hxs
      split at h
      · rename_i s' l ho
        split at h <;> cases h
        rename_i hc
        obtain ⟨rfl, rfl, hle, hsz, hsc⟩ := hc
        have hgk := obj_spec ho
        obtain ⟨ys, hyl, hrow, hlen, hfirst, hone⟩ := elemsOf_sound hI hx hxs
        obtain ⟨L, c, hL, hs, rfl, hce, hlc, hcap⟩ := V.own_iff.1 hd
        obtain ⟨L', hL', _, ⟨cs, ct, fz, hcs, hcesz, hfz⟩, hlen2, hVE, _⟩ := hI.obj _ _ _ hgk
        rw [hL] at hL'
        cases hL'
        have hn : min xs.length len ≤ xs.length := Nat.min_le_left _ _
        have hf := hfirst cfg.P (min xs.length len) hn w rfl
        have htk : (ys.take (min xs.length len * i.size)).length = min xs.length len * i.size := by
          rw [List.length_take, hyl]
          exact Nat.min_eq_left (Nat.mul_le_mul_right _ hn)
        have hrow2 : RowR w (Owns O0 ι H) ι i.size (ys.take (min xs.length len * i.size)).toArray (xs.take (min xs.length len)) := by
          intro m q hq
          rw [List.getElem?_take] at hq
          split at hq
          · rename_i hm
            obtain ⟨y, hy, hys, hget⟩ := hrow m q hq
            refine ⟨y, hy, hys, fun j z hz => ?_⟩
            have hj : j < i.size := by have := (List.getElem?_eq_some_iff.1 hz).1; simpa [hys] using this
            have hm2 : (m + 1) * i.size ≤ min xs.length len * i.size := Nat.mul_le_mul_right _ hm
            rw [Nat.add_mul, Nat.one_mul] at hm2
            rw [List.getElem?_toArray, List.getElem?_take, if_pos (by omega)]
            simpa using hget j z hz
          · cases hq
        have hxl : (xs.take (min xs.length len)).length = min xs.length len := by simp
        have hm3 : (off + min xs.length len) * i.size ≤ l.length * i.size := Nat.mul_le_mul_right _ (by omega)
        rw [Nat.add_mul] at hm3
        have hst := run_storeCells_fz cfg.P L.b (L.base + off * i.size) L.ce ct fz hfz (ys.take (min xs.length len * i.size)) 0 cs w hcs (by rw [htk]; omega) hcesz (fun v hv => hone hsc v (List.mem_of_mem_take hv))
        simp only [Nat.add_zero] at hst
        have hr : (Builtin.copy_ #[dt, xt] ty #[.slice (some ⟨L.b, L.base + off * i.size, none⟩) len c, xv]).run cfg.P w = .ok (.int .i64 (min xs.length len : Nat))
            (w.setRow L.b (cs.toList.take (L.base + off * i.size) ++ ys.take (min xs.length len * i.size) ++ cs.toList.drop (L.base + off * i.size + (ys.take (min xs.length len * i.size)).length)).toArray) := by
          have hf' : (Builtin.firstCells i.size (Nat.min xs.length len) xv).run cfg.P w = .ok (ys.take (min xs.length len * i.size)).toArray w := hf
          simp only [Builtin.copy_, List.getElem?_toArray, List.getElem?_cons_zero, List.getElem?_cons_succ, Sem.run_bind, run_underlying hdt, Result.andThen_ok, hlen, sizeOf, typeInfo, program, Sem.run, hi, Sem.run_pure, hf']
          rw [hst]
          rfl
        refine ⟨_, _, hr, ?_⟩
        have := hI.write (cs' := (cs.toList.take (L.base + off * i.size) ++ ys.take (min xs.length len * i.size) ++ cs.toList.drop (L.base + off * i.size + (ys.take (min xs.length len * i.size)).length)).toArray)
          (l' := l.take off ++ (xs.take (min xs.length len) ++ l.drop (off + min xs.length len))) hgk hL hcs
          (by simp only [List.size_toArray, List.length_append, List.length_take, List.length_drop, Array.length_toList, hyl]
              have hm4 : min xs.length len * i.size ≤ xs.length * i.size := Nat.mul_le_mul_right _ hn
              omega)
          (by
            simp only [List.length_append, List.length_take, List.length_drop]
            rw [show min off l.length + (min (min xs.length len) xs.length + (l.length - (off + min xs.length len))) = l.length by omega]
            exact hlen2)
          (fun O' ι' he => by
            have := VE.overwrite (t' := 0) hVE hcs hrow2 (by rw [htk, hxl]) (by rw [htk]; omega) (by omega) _ rfl he (Nat.zero_le _)
            simpa [hxl] using this)
        exact ⟨ι, this.1, this.2, V.lit_iff.2 rfl⟩
      · cases h
    · rename_i xs hxs
      cases h
      exact zero _ _ _ hxs (V.lit_iff.1 hd)
    · rename_i xs s cap hxs
      cases h
      obtain ⟨a, c, hdv, _⟩ := V.dsl_iff.1 hd
      exact zero _ a c hxs hdv
    · cases h
  · cases h

/-- An object of the call's own, of another kind than a row of cells, is put in the place of what it was. -/
theorem Inv.putObj {k ver : Nat} {o o' : HObj} {L : Loc} {b : Obj} {w' : World} (hI : Inv cfg O0 ι H w) (hg : H.get k = some (ver, o)) (hl : o.live = true) (hL : ι k ver = some L)
    (hw : w' = { w with heap := w.heap.setIfInBounds L.b b })
    (hobj : ∀ O' ι', Ext w (Owns O0 ι H) ι w' O' ι' → w'.heap[L.b]? = some b → ObjR w' O' ι' L o') :
    Inv cfg O0 ι (H.put k (ver, o')) w' ∧ Step ι H w ι (H.put k (ver, o')) w' := by
  subst hw
  obtain ⟨L2, hL2, ho⟩ := hI.obj _ _ _ hg
  rw [hL] at hL2
  cases hL2
  have hlt := ho.lt
  have := Inv.set (L' := L) (o' := o') (ver' := ver) (w' := { w with heap := w.heap.setIfInBounds L.b b }) hI (upd_self hL).symm (fun v o h => by rw [hg] at h; cases h; exact Nat.le_refl _) (fun L' h => by rw [hL] at h; cases h; rfl) rfl rfl rfl
    (by simp) (fun b' hb hne => by simp [Ne.symm hne]) (.inr ⟨ver, _, L, hg, hl, hL, rfl⟩)
    (fun he => hobj _ _ he (by simp [hlt]))
  exact this

theorem keyStays {P : Program} {a b : Value} (h : Instr.sameBits 10000 a b = true) (w : World) : (Instr.keyThatStays a b).run P w = .ok b w := by
  simp [Instr.keyThatStays, h]

theorem VL.set {l : List PV} {xs : List Value} (h : VL w O ι l xs) {p : PV} {x : Value} (hx : V w O ι p x) (i : Nat) : VL w O ι (l.set i p) (xs.set i x) := by
  induction l generalizing xs i with
  | nil => rw [VL.nil_iff] at h; subst h; exact VL.nil_iff.2 rfl
  | cons q l ih =>
    obtain ⟨y, ys, rfl, hy, hs⟩ := VL.cons_iff.1 h
    cases i with
    | zero => exact VL.cons hx hs
    | succ i => exact VL.cons hy (ih hs i)

theorem updateA_sound {t : TypeId} {m v : PV} {mv k vv : Value} {dl : Delta} (hI : Inv cfg O0 ι H w) (hm : V w (Owns O0 ι H) ι m mv) (hv : V w (Owns O0 ι H) ι v vv) (h : updateA cfg.P H t m k v = some dl) :
    ∃ w', (Instr.mapUpdate t mv k vv).run cfg.P w = .ok () w' ∧ Wrote cfg O0 ι H w undefP dl undef w' := by
  have hun : ∀ w O ι, V w O ι undefP undef := fun w O ι => V.tup_iff.2 ⟨#[], rfl, VL.nil_iff.2 rfl⟩
  unfold updateA at h
  split at h
  · rename_i kt vt hu
    split at h
    · rename_i id ver
      split at h
      · rename_i ks vs bs clock ho
        split at h
        · rename_i hkey
          have hgk := obj_spec ho
          simp only [V] at hm
          obtain ⟨L, hL, rfl⟩ := hm
          obtain ⟨L', hL', ents, hb, hk, hbs, hvl⟩ := hI.obj _ _ _ hgk
          rw [hL] at hL'
          cases hL'
          have hkr := keyOk_spec hkey w
          unfold findE at h
          cases hp : pureRun cfg.P (Instr.findKey kt k (entsOf ks bs)) with
          | none => rw [hp] at h; cases h
          | some r =>
            have hrel := findKey_rel (es' := ents.toList) (by rw [entsOf_keys (by rw [hk, hbs]; simp), hk]) hp
            rw [hp] at h
            rcases hrel with ⟨rfl, hpr⟩ | ⟨i, u, e', rfl, he', hpr⟩
            · simp only at h
              cases h
              refine ⟨{ w with heap := w.heap.setIfInBounds L.b (.map (ents.push { key := k, val := vv, born := clock }) (clock + 1)) }, ?_, ?_⟩
              · simp [Instr.mapUpdate, run_underlying hu, getObj, setObj, Sem.run, hb, hkr, pureRun_sound hpr]
              · have := hI.putObj (b := .map (ents.push { key := k, val := vv, born := clock }) (clock + 1)) (o' := .mp (ks ++ [k]) (vs ++ [v]) (bs ++ [clock]) (clock + 1)) hgk rfl hL rfl (fun O' ι' he hb' => ⟨_, hb', by simp [hk], by simp [hbs], by
                  have := (VL.mono he _ _ hvl).append (VL.cons (V.mono he _ _ hv) (VL.nil_iff.2 rfl))
                  simpa using this⟩)
                exact ⟨ι, this.1, this.2, hun _ _ _⟩
            · simp only at h
              split at h
              · rename_i k0 hk0
                split at h <;> cases h
                rename_i hsame
                have hek : e'.key = k0 := by
                  rw [hk, List.getElem?_map, he'] at hk0
                  exact Option.some.inj hk0
                have hents : ents[i]? = some e' := by simpa using he'
                refine ⟨{ w with heap := w.heap.setIfInBounds L.b (.map (ents.modify i fun e => { e with key := k, val := vv }) clock) }, ?_, ?_⟩
                · simp [Instr.mapUpdate, run_underlying hu, getObj, setObj, Sem.run, hb, hkr, pureRun_sound hpr, hents, hek, keyStays hsame]
                · have := hI.putObj (b := .map (ents.modify i fun e => { e with key := k, val := vv }) clock) (o' := .mp (ks.set i k) (vs.set i v) bs clock) hgk rfl hL rfl (fun O' ι' he hb' => ⟨_, hb', by
                      rw [hk]
                      apply List.ext_getElem?
                      intro j
                      simp only [List.getElem?_set, List.getElem?_map, Array.getElem?_toList, Array.getElem?_modify, List.length_map, Array.length_toList]
                      by_cases hij : i = j
                      · subst hij
                        simp [hents]
                        exact (Array.getElem?_eq_some_iff.1 hents).1
                      · simp [hij], by
                      rw [hbs]
                      apply List.ext_getElem?
                      intro j
                      simp only [List.getElem?_map, Array.getElem?_toList, Array.getElem?_modify]
                      by_cases hij : i = j
                      · subst hij
                        simp [hents]
                      · simp [hij], by
                      have := VL.set (VL.mono he _ _ hvl) (V.mono he _ _ hv) i
                      have e : (ents.toList.map (·.val)).set i vv = (ents.modify i fun e => { e with key := k, val := vv }).toList.map (·.val) := by
                        apply List.ext_getElem?
                        intro j
                        simp only [List.getElem?_set, List.getElem?_map, Array.getElem?_toList, Array.getElem?_modify, List.length_map, Array.length_toList]
                        by_cases hij : i = j
                        · subst hij
                          simp [hents]
                          exact (Array.getElem?_eq_some_iff.1 hents).1
                        · simp [hij]
                      rw [← e]
                      exact this⟩)
                  exact ⟨ι, this.1, this.2, hun _ _ _⟩
              · cases h
        · cases h
      · cases h
    · cases h
  · cases h
end
end Go.Proofs.YtddaogebacigbaaGreatDoor.RV
