/- A part of the evaluator over abstract values, and that it is right (RvL). Conditions: none. -/
import Derived.Test.YtddaogebacigbaaGreatDoorRvK
set_option linter.constructorNameAsVariable false
namespace Go.Proofs.YtddaogebacigbaaGreatDoor.RV
open Go.RowKit (Below)

section
variable {cfg : Cfg} {O0 : Nat → Prop} {ι : Iota} {H : Heap} {w : World} {env : Env} {ρ : Operand → Value} {O : Nat → Prop}

/-- What an operation that writes does. -/
def Wrote (cfg : Cfg) (O0 : Nat → Prop) (ι : Iota) (H : Heap) (w : World) (p : PV) (d : Delta) (x : Value) (w' : World) : Prop :=
  ∃ ι', Inv cfg O0 ι' (applyD H d) w' ∧ Step ι H w ι' (applyD H d) w' ∧ V w' (Owns O0 ι' (applyD H d)) ι' p x

theorem upd_self {k ver : Nat} {L : Loc} (h : ι k ver = some L) : upd ι k ver L = ι := by
  funext id v
  unfold upd
  split
  · rename_i hc; obtain ⟨rfl, rfl⟩ := hc; exact h.symm
  · rfl

/-- An own row of cells is written: its elements are others, its place is not. -/
theorem Inv.write {k ver s : Nat} {l l' : List PV} {cs' cs : Array Value} {t : TypeId} {fz : Nat × Nat} {L : Loc} (hI : Inv cfg O0 ι H w) (hg : H.get k = some (ver, .blk s l true)) (hL : ι k ver = some L)
    (hc : w.heap[L.b]? = some (.cells cs t fz)) (hsz : cs'.size = cs.size)
    (hlen : L.base + l'.length * s ≤ L.ce)
    (hel : ∀ O' ι', Ext w (Owns O0 ι H) ι (w.setRow L.b cs') O' ι' → VE (w.setRow L.b cs') O' ι' s L.b L.base l') :
    Inv cfg O0 ι (H.put k (ver, .blk s l' true)) (w.setRow L.b cs') ∧ Step ι H w ι (H.put k (ver, .blk s l' true)) (w.setRow L.b cs') := by
  obtain ⟨L2, hL2, hs, ⟨cs2, t2, fz2, hc2, hce, hfz⟩, _, _, _⟩ := hI.obj _ _ _ hg
  rw [hL] at hL2
  cases hL2
  rw [hc] at hc2
  cases hc2
  have := Inv.set (L' := L) (o' := .blk s l' true) (ver' := ver) (w' := w.setRow L.b cs') hI (upd_self hL).symm (fun v o h => by rw [hg] at h; cases h; exact Nat.le_refl _) (fun L' h => by rw [hL] at h; cases h; rfl) rfl rfl rfl
    (by simp [World.setRow]) (fun b hb hne => setRow_other w L.b b cs' hne) (.inr ⟨ver, _, L, hg, rfl, hL, rfl⟩)
    (fun he => ⟨hs, ⟨cs', t, fz, setRow_heap w L.b cs cs' t fz hc, by rw [hsz]; exact hce, hfz⟩, hlen, hel _ _ he, fun h => by cases h⟩)
  exact this

theorem VE.cells_of {s b o : Nat} {l : List PV} (h : VE w O ι s b o l) {i : Nat} {p : PV} (hp : l[i]? = some p) : p.cells.length = s := by
  obtain ⟨y, hy, hs, _⟩ := h.get i p hp
  rw [← hs, ← hy.cells.length]; simp

theorem storeA_sound {t : TypeId} {p v : PV} {x y : Value} {d : Delta} (hI : Inv cfg O0 ι H w) (hx : V w (Owns O0 ι H) ι p x) (hy : V w (Owns O0 ι H) ι v y) (h : storeA cfg.P H t p v = some d) :
    ∃ w', (Instr.storeAt t x y).run cfg.P w = .ok () w' ∧ Wrote cfg O0 ι H w undefP d undef w' := by
  unfold storeA at h
  split at h
  · rename_i id ver idx off
    split at h
    · rename_i s l n ho hn
      split at h
      · rename_i e he
        split at h
        · rename_i hc
          obtain ⟨hvn, hoff, hsc⟩ := hc
          have hgk := obj_spec ho
          obtain ⟨L, hL, hxx⟩ := V.ptr_iff.1 hx
          obtain ⟨L', hL', hs, ⟨cs, ct, fz, hcs, hce, hfz⟩, hlen, hVE, _⟩ := hI.obj _ _ _ hgk
          rw [hL] at hL'
          cases hL'
          have hidx : idx < l.length := (List.getElem?_eq_some_iff.1 he).1
          have hes := hVE.cells_of he
          obtain ⟨z, hz, hzs, hzc⟩ := hVE.get idx e he
          have hyl : y.cells.size = n := by rw [← hvn, ← hy.cells.length]; simp
          have hmul : (idx + 1) * s ≤ l.length * s := Nat.mul_le_mul_right _ hidx
          rw [Nat.add_mul, Nat.one_mul] at hmul
          have hst := run_storeCells_fz cfg.P L.b (L.base + idx * s + off) L.ce ct fz hfz y.cells.toList 0 cs w hcs (by simp; omega) hce (scalars_one hy.cells hsc)
          generalize hcs' : (cs.toList.take (L.base + idx * s + off + 0) ++ y.cells.toList ++ cs.toList.drop (L.base + idx * s + off + 0 + y.cells.toList.length)).toArray = cs' at hst
          have hcsz : cs'.size = cs.size := by
            rw [← hcs']
            simp
            omega
          have hget : ∀ j, cs'[j]? = if L.base + idx * s + off ≤ j ∧ j < L.base + idx * s + off + n then y.cells.toList[j - (L.base + idx * s + off)]? else cs[j]? := fun j => by
            rw [← hcs']
            simp only [List.getElem?_toArray, List.append_assoc, Nat.add_zero]
            rw [List.getElem?_append]
            have hl1 : (cs.toList.take (L.base + idx * s + off)).length = L.base + idx * s + off := by simp; omega
            rw [hl1]
            split
            · rename_i h1
              rw [if_neg (by omega), List.getElem?_take, if_pos h1]; simp
            · rename_i h1
              rw [List.getElem?_append]
              have hl2 : y.cells.toList.length = n := by simpa using hyl
              rw [hl2]
              split
              · rename_i h2
                rw [if_pos (by omega)]
              · rename_i h2
                rw [if_neg (by omega), List.getElem?_drop]
                simp
                congr 1
                omega
          have hw : (Instr.storeAt t x y).run cfg.P w = .ok () (w.setRow L.b cs') := by
            rw [hxx, hs]
            simp only [Instr.storeAt, Instr.sureAddr, Sem.run_bind, Sem.run_pure, Result.andThen_ok, storeVar, run_sizeOf hn]
            rw [if_neg (by simp [hyl])]
            simpa using hst
          refine ⟨w.setRow L.b cs', hw, ?_⟩
          -- the elements behind the write
          have key : ∀ e' : PV, (∀ O' ι', Ext w (Owns O0 ι H) ι (w.setRow L.b cs') O' ι' → ∃ z', V (w.setRow L.b cs') O' ι' e' z' ∧ z'.cells.size = s ∧ ∀ j u, z'.cells.toList[j]? = some u → cs'[L.base + idx * s + j]? = some u) →
              Wrote cfg O0 ι H w undefP [(id, ver, .blk s (l.set idx e') true)] undef (w.setRow L.b cs') := by
            intro e' he'
            have := hI.write (cs' := cs') (l' := l.set idx e') hgk hL hcs hcsz (by simpa using hlen) (fun O' ι' hext => VE.of_get fun i q hq => ?_)
            · exact ⟨ι, this.1, this.2, V.tup_iff.2 ⟨#[], rfl, VL.nil_iff.2 rfl⟩⟩
            · rw [List.getElem?_set] at hq
              split at hq
              · rename_i hi
                subst hi
                cases hq
                obtain ⟨z', h1, h2, h3⟩ := he' O' ι' hext
                exact ⟨z', h1, h2, cs', ct, fz, setRow_heap w L.b cs cs' ct fz hcs, h3⟩
              · rename_i hi
                obtain ⟨q', hq1, hq2, cs2, t2, fz2, hb2, hq3⟩ := hVE.get i q hq
                rw [hcs] at hb2
                cases hb2
                refine ⟨q', V.mono hext _ _ hq1, hq2, cs', ct, fz, setRow_heap w L.b cs cs' ct fz hcs, fun j u hu => ?_⟩
                have hj : j < s := by have := (List.getElem?_eq_some_iff.1 hu).1; simpa [hq2] using this
                rw [hget, if_neg]
                · exact hq3 j u hu
                · rintro ⟨h1, h2⟩
                  rcases Nat.lt_or_gt_of_ne hi with hlt | hlt
                  · have : (idx + 1) * s ≤ i * s := Nat.mul_le_mul_right _ hlt
                    rw [Nat.add_mul, Nat.one_mul] at this
                    omega
                  · have : (i + 1) * s ≤ idx * s := Nat.mul_le_mul_right _ hlt
                    rw [Nat.add_mul, Nat.one_mul] at this
                    omega
          have hzcell : ∀ j u, z.cells.toList[j]? = some u → cs[L.base + idx * s + j]? = some u := by
            obtain ⟨cs2, t2, fz2, hb2, hq3⟩ := hzc
            rw [hcs] at hb2
            cases hb2
            exact hq3
          split at h
          · rename_i es
            cases h
            refine key _ fun O' ι' hext => ?_
            obtain ⟨zs, rfl, hzl⟩ := V.agg_iff.1 hz
            simp only [PV.cells] at hoff hes
            simp only [Value.cells] at hzs hzcell
            have hsp := VL.splice (VL.mono hext _ _ hzl) (VL.mono hext _ _ hy.cells) off
            refine ⟨.agg (zs.toList.take off ++ (y.cells.toList ++ zs.toList.drop (off + y.cells.toList.length))).toArray, V.agg_iff.2 ⟨_, rfl, by simpa using hsp⟩, ?_, fun j u hu => ?_⟩
            · show (List.toArray _).size = s
              simp
              omega
            · have hu : (zs.toList.take off ++ (y.cells.toList ++ zs.toList.drop (off + y.cells.toList.length)))[j]? = some u := hu
              rw [List.getElem?_append] at hu
              have hl1 : (zs.toList.take off).length = off := by simp; omega
              have hl2 : y.cells.toList.length = n := by simpa using hyl
              rw [hl1] at hu
              rw [hget]
              split at hu
              · rename_i h1
                rw [if_neg (by omega)]
                rw [List.getElem?_take, if_pos h1] at hu
                exact hzcell j u hu
              · rename_i h1
                rw [List.getElem?_append, hl2] at hu
                split at hu
                · rename_i h2
                  rw [if_pos (by omega), ← hu]
                  congr 1
                  omega
                · rename_i h2
                  rw [if_neg (by omega)]
                  rw [List.getElem?_drop] at hu
                  refine hzcell j u ?_
                  rw [← hu]
                  congr 1
                  omega
          · split at h
            · cases h
            · rename_i hne hnv
              split at h <;> cases h
              rename_i hc1
              obtain ⟨hn1, he1⟩ := hc1
              refine key _ fun O' ι' hext => ⟨y, V.mono hext _ _ hy, by omega, fun j u hu => ?_⟩
              have hj : j < y.cells.size := by have := (List.getElem?_eq_some_iff.1 hu).1; simpa using this
              rw [hget, if_pos (by omega), ← hu]
              congr 1
              omega
        · cases h
      · cases h
    · cases h
  · cases h
end
end Go.Proofs.YtddaogebacigbaaGreatDoor.RV
