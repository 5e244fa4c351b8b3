/- A part of the evaluator over abstract values, and that it is right (RvM). Conditions: none. -/
import Derived.Test.YtddaogebacigbaaGreatDoorRvL
set_option linter.constructorNameAsVariable false
namespace Go.Proofs.YtddaogebacigbaaGreatDoor.RV
open Go.RowKit (Below)

section
variable {cfg : Cfg} {O0 : Nat → Prop} {ι : Iota} {H : Heap} {w : World} {env : Env} {ρ : Operand → Value} {O : Nat → Prop}

theorem scalarsE_spec : ∀ {l : List PV}, scalarsE l = true → ∀ p ∈ l, scalars p.cells = true
  | [], _, _, h => by cases h
  | q :: l, h, p, hp => by
    simp only [scalarsE, Bool.and_eq_true] at h
    rcases List.mem_cons.1 hp with rfl | hp
    · exact h.1
    · exact scalarsE_spec h.2 p hp

/-- The cells of a row of elements. -/
theorem VE.row {s b : Nat} : ∀ {l : List PV} {o : Nat}, VE w O ι s b o l → ∃ ys : List Value, ys.length = l.length * s ∧ RowR w O ι s ys.toArray l ∧ (∀ j y, ys[j]? = some y → w.cell? ⟨b, o + j, none⟩ = some y) ∧ (scalarsE l = true → ∀ v ∈ ys, v.oneCell' = true)
  | [], o, _ => ⟨[], by simp, fun m p h => by simp at h, fun j y h => by simp at h, fun _ v h => by cases h⟩
  | p :: ps, o, h => by
    obtain ⟨⟨y, hy, hs, hc⟩, hr⟩ := VE.cons_iff.1 h
    obtain ⟨ys, hl, hrow, hcell, h1⟩ := VE.row hr
    refine ⟨y.cells.toList ++ ys, ?_, fun m q hq => ?_, fun j z hz => ?_, fun hsc v hv => ?_⟩
    · simp [hl, hs, Nat.add_mul]; omega
    · cases m with
      | zero =>
        simp at hq
        subst hq
        exact ⟨y, hy, hs, fun j z hz => by
          have hj : j < y.cells.toList.length := (List.getElem?_eq_some_iff.1 hz).1
          rw [Nat.zero_mul, Nat.zero_add, List.getElem?_toArray, List.getElem?_append_left hj]
          exact hz⟩
      | succ m =>
        obtain ⟨z, hz, hzs, hget⟩ := hrow m q (by simpa using hq)
        refine ⟨z, hz, hzs, fun j u hu => ?_⟩
        have := hget j u hu
        rw [List.getElem?_toArray] at this ⊢
        have hl2 : y.cells.toList.length = s := by simpa using hs
        rw [List.getElem?_append_right (by rw [hl2, Nat.add_mul]; omega), hl2]
        rw [← this]
        congr 1
        rw [Nat.add_mul]
        omega
    · rw [List.getElem?_append] at hz
      have hl2 : y.cells.toList.length = s := by simpa using hs
      rw [hl2] at hz
      split at hz
      · obtain ⟨cs, t, fz, hb, hget⟩ := hc
        rw [cell_of_row w b _ cs t fz hb]
        exact hget j z hz
      · have := hcell (j - s) z hz
        rw [← this]
        congr 2
        omega
    · simp only [scalarsE, Bool.and_eq_true] at hsc
      rcases List.mem_append.1 hv with hv | hv
      · exact scalars_one hy.cells hsc.1 v hv
      · exact h1 hsc.2 v hv

theorem run_first_row {P : Program} {s k b o n c : Nat} {ys : List Value} (hk : k * s ≤ ys.length) (hc : ∀ j y, ys[j]? = some y → w.cell? ⟨b, o + j, none⟩ = some y) (w2 : World) (hw : w2.heap = w.heap) :
    (Builtin.firstCells s k (.slice (some ⟨b, o, none⟩) n c)).run P w2 = .ok (ys.take (k * s)).toArray w2 := by
  have hlen : (ys.take (k * s)).length = k * s := by simp; omega
  have hcell : ∀ a, w2.cell? a = w.cell? a := fun a => by simp [World.cell?, hw]
  have := run_loadCells_list (P := P) w2 ⟨b, o, none⟩ (ys.take (k * s)) (fun j v hv => by
    rw [List.getElem?_take] at hv
    split at hv
    · rw [Addr.add_mid, hcell]; exact hc j v hv
    · cases hv)
  rw [hlen] at this
  simpa [Builtin.firstCells] using this

theorem elemsOf_sound {s : Nat} {q : PV} {x : Value} {xs : List PV} (hI : Inv cfg O0 ι H w) (hx : V w (Owns O0 ι H) ι q x) (h : elemsOf H s q = some xs) :
    ∃ ys : List Value, ys.length = xs.length * s ∧ RowR w (Owns O0 ι H) ι s ys.toArray xs ∧ (∀ P w2, (Builtin.lenOf x).run P w2 = .ok xs.length w2) ∧
      (∀ P k, k ≤ xs.length → ∀ w2 : World, w2.heap = w.heap → (Builtin.firstCells s k x).run P w2 = .ok (ys.take (k * s)).toArray w2) ∧ (scalarsE xs = true → ∀ v ∈ ys, v.oneCell' = true) := by
  unfold elemsOf at h
  split at h
  · rename_i id ver s' off len cap
    split at h
    · rename_i s2 l live ho
      split at h <;> cases h
      rename_i hc
      obtain ⟨rfl, rfl, hle⟩ := hc
      obtain ⟨L, c, hL, hs, rfl, _⟩ := V.own_iff.1 hx
      obtain ⟨L', hL', _, _, _, hVE, _⟩ := hI.obj _ _ _ (obj_spec ho)
      rw [hL] at hL'
      cases hL'
      obtain ⟨ys, h1, h2, h3, h4⟩ := ((hVE.drop off).take len).row
      have hlen : ((l.drop off).take len).length = len := by simp; omega
      refine ⟨ys, h1, h2, fun P w2 => by rw [hlen]; simp [Builtin.lenOf], fun P k hk w2 hw => ?_, h4⟩
      exact run_first_row (by rw [h1]; exact Nat.mul_le_mul_right _ hk) h3 w2 hw
    · cases h
  · rename_i s' l cap
    split at h <;> cases h
    rename_i hs
    subst hs
    obtain ⟨a, c, rfl, _, _, hr⟩ := V.dsl_iff.1 hx
    rcases hr with rfl | ⟨b, o, rfl, _, hVE⟩
    · refine ⟨[], by simp, fun m p h => by simp at h, fun P w2 => by simp [Builtin.lenOf], fun P k hk w2 hw => ?_, fun _ v hv => by cases hv⟩
      have hk0 : k = 0 := by simpa using hk
      subst hk0
      cases a <;> simp [Builtin.firstCells, loadCells, loadCellsFrom]
    · obtain ⟨ys, h1, h2, h3, h4⟩ := hVE.row
      exact ⟨ys, h1, fun m p hp => by
          obtain ⟨y, hy, r⟩ := h2 m p hp
          exact ⟨y, hy.lift, r⟩, fun P w2 => by simp [Builtin.lenOf], fun P k hk w2 hw => run_first_row (by rw [h1]; exact Nat.mul_le_mul_right _ hk) h3 w2 hw, h4⟩
  · cases h
    obtain rfl := V.lit_iff.1 hx
    refine ⟨[], by simp, fun m p h => by simp at h, fun P w2 => by simp [Builtin.lenOf], fun P k hk w2 hw => ?_, fun _ v hv => by cases hv⟩
    simp [Builtin.firstCells]
  · rename_i b
    split at h <;> cases h
    rename_i hs
    subst hs
    obtain rfl := V.lit_iff.1 hx
    have hsz : b.data.size = b.size := rfl
    refine ⟨b.data.toList.map fun x => Value.int .u8 x.toNat, by simp [bytesP], fun m p hp => ?_, fun P w2 => by simp [Builtin.lenOf, bytesP], fun P k hk w2 hw => ?_, fun _ v hv => ?_⟩
    · simp only [bytesP, List.getElem?_map, Option.map_eq_some_iff] at hp
      obtain ⟨u, hu, rfl⟩ := hp
      refine ⟨.int .u8 u.toNat, V.lit_iff.2 rfl, rfl, fun j z hz => ?_⟩
      have : j = 0 := by have := (List.getElem?_eq_some_iff.1 hz).1; simpa [Value.cells] using this
      subst this
      simp [Value.cells] at hz
      simp [hu, ← hz]
    · simp only [Builtin.firstCells, Sem.run_pure]
      congr 1
      apply Array.ext'
      simp [ByteArray.data_extract, List.extract_eq_take_drop]
    · obtain ⟨u, _, rfl⟩ := List.mem_map.1 hv
      rfl
  · cases h

/-- What is not a number: the second type of an append. -/
def notInt (P : Program) (t : TypeId) : Prop := (∃ e, P.underlying t = some (.slice e)) ∨ P.underlying t = some .string

theorem run_append_roomV {P : Program} {dt xt ty e : TypeId} {i : TypeInfo} {g o sLen sCap n : Nat} {x : Value} {ys : List Value} {cur : Array Value} {t : TypeId} {fz : Nat × Nat} {ce : Nat}
    (hdt : P.underlying dt = some (.slice e)) (hxt : notInt P xt) (hi : P.info? e = some i) (hg : w.heap[g]? = some (.cells cur t fz)) (hfz : ∀ j, fz.1 ≤ j → j < fz.2 → ce ≤ j) (hce : ce ≤ cur.size)
    (hlen : (Builtin.lenOf x).run P w = .ok n w) (hfirst : (Builtin.firstCells i.size n x).run P w = .ok ys.toArray w) (h1 : ∀ v ∈ ys, v.oneCell' = true) (hroom : sLen + n ≤ sCap) (hfit : o + sLen * i.size + ys.length ≤ ce) :
    (Builtin.append_ #[dt, xt] ty #[.slice (some ⟨g, o, none⟩) sLen sCap, x]).run P w =
      .ok (.slice (some ⟨g, o, none⟩) (sLen + n) sCap) (w.setRow g (cur.toList.take (o + sLen * i.size) ++ ys ++ cur.toList.drop (o + sLen * i.size + ys.length)).toArray) := by
  have hst := run_storeCells_fz P g (o + sLen * i.size) ce t fz hfz ys 0 cur w hg (by omega) hce h1
  simp only [Nat.add_zero] at hst
  unfold Builtin.append_
  simp only [List.getElem?_toArray, List.getElem?_cons_zero, List.getElem?_cons_succ, Sem.run_bind, run_underlying hdt, Result.andThen_ok, sizeOf, typeInfo, program, Sem.run, hi]
  rcases hxt with ⟨e', hd⟩ | hd <;> simp [run_underlying hd, hlen, hroom, hfirst, Addr.add_mid, hst]

theorem run_append_growV {P : Program} {dt xt ty e : TypeId} {i : TypeInfo} {z : Value} {base : Option Addr} {sLen sCap n : Nat} {x : Value} {ys olds : List Value}
    (hdt : P.underlying dt = some (.slice e)) (hxt : notInt P xt) (hi : P.info? e = some i) (hz : i.zero = some z)
    (hlen : (Builtin.lenOf x).run P w = .ok n w) (hfirst : ∀ w2 : World, w2.heap = w.heap → (Builtin.firstCells i.size n x).run P w2 = .ok ys.toArray w2)
    (hold : ∀ w2 : World, w2.heap = w.heap → (Builtin.firstCells i.size sLen (.slice base sLen sCap)).run P w2 = .ok olds.toArray w2)
    (hg : sCap < sLen + n) (h63 : sLen + n ≤ 2 ^ 40) (hb : (sLen + n) * i.bytes ≤ 2 ^ 40) :
    ∃ cap rest, (Builtin.append_ #[dt, xt] ty #[.slice base sLen sCap, x]).run P w =
      .ok (.slice (some ⟨w.heap.size, 0, none⟩) (sLen + n) cap) (w.drew.alloc (.cells (olds ++ (ys ++ rest)).toArray e)) ∧ sLen + n ≤ cap ∧ rest.length = (cap - (sLen + n)) * z.cells.size := by
  have hroom : ¬ (sLen + n ≤ sCap) := by omega
  have h1 : (2 : Nat) ^ 40 ≤ 140737488355328 := by decide
  have h2 : (2 : Nat) ^ 40 ≤ 9223372036854775807 := by decide
  have h63' : ¬ (9223372036854775807 < ((sLen : Int) + (n : Int))) := by omega
  have hfit : Builtin.nextslicecap (sLen + n) sCap * i.bytes ≤ 281474976710656 := growslice_fits hg (by omega)
  have h48' : ¬ (281474976710656 < Builtin.nextslicecap (sLen + n) sCap * i.bytes) := by omega
  have hf := hfirst w.drew rfl
  have ho := hold w.drew rfl
  refine ⟨grownCap w (sLen + n) sCap e, (Builtin.zeroCells z.cells (grownCap w (sLen + n) sCap e - (sLen + n))).toList, ?_, grownCap_ge _ _ _ _, by simp [size_zeroCells]⟩
  have hcells : (olds ++ (ys ++ (Builtin.zeroCells z.cells (grownCap w (sLen + n) sCap e - (sLen + n))).toList)).toArray = olds.toArray ++ ys.toArray ++ Builtin.zeroCells z.cells (grownCap w (sLen + n) sCap e - (sLen + n)) := by
    apply Array.ext'
    simp
  rw [hcells]
  rcases hxt with ⟨e', hd⟩ | hd <;> simp [Builtin.append_, run_underlying hdt, run_underlying hd, sizeOf, typeInfo, zeroValue, hi, hz, hlen, hroom, h63', h48', Question.forced, hf, ho, newRow, grownCap] <;> (congr 2; apply Array.ext'; simp)
end
end Go.Proofs.YtddaogebacigbaaGreatDoor.RV
