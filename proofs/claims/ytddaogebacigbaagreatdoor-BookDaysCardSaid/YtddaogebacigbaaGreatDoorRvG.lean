/- A part of the evaluator over abstract values, and that it is right (RvG). Conditions: none. -/
import Derived.Test.YtddaogebacigbaaGreatDoorRvF
set_option linter.constructorNameAsVariable false
namespace Go.Proofs.YtddaogebacigbaaGreatDoor.RV
open Go.RowKit (Below)

/-- A row of cells holds these elements. -/
def RowR (w : World) (O : Nat → Prop) (ι : Iota) (s : Nat) (cells : Array Value) (l : List PV) : Prop :=
  ∀ m p, l[m]? = some p → ∃ y, V w O ι p y ∧ y.cells.size = s ∧ ∀ j z, y.cells.toList[j]? = some z → cells[m * s + j]? = some z

theorem RowR.ve {w w' : World} {O O' : Nat → Prop} {ι ι' : Iota} {s b : Nat} {cells : Array Value} {l : List PV} {t : TypeId} {fz : Nat × Nat} (h : RowR w O ι s cells l) (he : Ext w O ι w' O' ι')
    (hb : w'.heap[b]? = some (.cells cells t fz)) : VE w' O' ι' s b 0 l :=
  VE.of_get fun i p hp => by
    obtain ⟨y, hy, hs, hc⟩ := h i p hp
    exact ⟨y, V.mono he _ _ hy, hs, cells, t, fz, hb, fun j z hz => by rw [Nat.zero_add]; exact hc j z hz⟩

section
variable {cfg : Cfg} {env : Env} {w : World} {O : Nat → Prop} {ι : Iota} {ρ : Operand → Value}

theorem PartsR.map_fst {ps : List (Nat × PV)} {xs : List (Nat × Value)} (h : PartsR w O ι ps xs) : xs.map (·.1) = ps.map (·.1) := by
  induction h with
  | nil => rfl
  | cons _ _ ih => simp [ih]
theorem PartsR.vals {ps : List (Nat × PV)} {xs : List (Nat × Value)} (h : PartsR w O ι ps xs) : VL w O ι (ps.map (·.2)) (xs.map (·.2)) := by
  induction h with
  | nil => exact VL.nil_iff.2 rfl
  | cons hv _ ih => exact VL.cons hv ih

theorem fillRow (sz : Nat) : ∀ (xs : List (Nat × Value)) (k : Nat) (cells : Array Value), xs.map (·.1) = List.range' k xs.length → (∀ x ∈ xs, x.2.cells.size = sz) → (k + xs.length) * sz ≤ cells.size →
    ∃ cells', Instr.fill (fun i => some (i * sz, sz)) cells xs = some cells' ∧ cells'.size = cells.size ∧ (∀ j, j < k * sz → cells'[j]? = cells[j]?) ∧
      ∀ m v, (xs.map (·.2))[m]? = some v → ∀ j y, v.cells.toList[j]? = some y → cells'[(k + m) * sz + j]? = some y
  | [], k, cells, _, _, _ => ⟨cells, rfl, rfl, fun _ _ => rfl, fun m v h => by simp at h⟩
  | (i, v) :: xs, k, cells, hi, hs, hc => by
    simp only [List.map_cons, List.length_cons, List.range'_succ, List.cons.injEq] at hi
    obtain ⟨rfl, hi⟩ := hi
    have hv : v.cells.size = sz := hs (i, v) (by simp)
    simp only [List.length_cons] at hc
    have hmul : (i + (xs.length + 1)) * sz = i * sz + sz + xs.length * sz := by rw [Nat.add_mul, Nat.add_mul]; omega
    have hmul2 : (i + 1 + xs.length) * sz = i * sz + sz + xs.length * sz := by rw [Nat.add_mul, Nat.add_mul]; omega
    have hmul3 : (i + 1) * sz = i * sz + sz := by rw [Nat.add_mul]; omega
    have hfold := list_foldl_set (i * sz) v.cells.toList 0 cells (by simp [hv]; omega)
    generalize hcc : (v.cells.zipIdx.foldl (fun cs (x : Value × Nat) => cs.setIfInBounds (i * sz + x.2) x.1) cells) = c1
    have hz : c1.toList = cells.toList.take (i * sz) ++ (v.cells.toList ++ cells.toList.drop (i * sz + v.cells.toList.length)) := by
      rw [← hcc, ← Array.foldl_toList, Array.toList_zipIdx]
      simpa using hfold
    have hc1 : c1.size = cells.size := by
      rw [← Array.length_toList, hz]
      simp [hv]
      omega
    obtain ⟨c', hf, hsz, hlow, hget⟩ := fillRow sz xs (i + 1) c1 hi (fun x hx => hs x (by simp [hx])) (by omega)
    refine ⟨c', ?_, hsz.trans hc1, fun j hj => ?_, fun m u hu j y hy => ?_⟩
    · unfold Instr.fill
      dsimp only
      rw [if_neg (by simp [hv]; omega)]
      rw [← hf, ← hcc]
    · rw [hlow j (by omega), ← Array.getElem?_toList, hz, List.getElem?_append_left (by simp; omega), List.getElem?_take, if_pos hj, Array.getElem?_toList]
    · cases m with
      | zero =>
        simp at hu
        subst hu
        have hjl : j < sz := by have := (List.getElem?_eq_some_iff.1 hy).1; simpa [hv] using this
        rw [hlow _ (by simp; omega), ← Array.getElem?_toList, hz, List.getElem?_append_right (by simp; omega)]
        rw [List.getElem?_append_left (by simp [hv]; omega)]
        rw [← hy]
        congr 1
        simp
        omega
      | succ m =>
        have := hget m u (by simpa using hu) j y hy
        rw [show i + (m + 1) = i + 1 + m by omega]
        exact this

theorem sizesAre_spec {s : Nat} : ∀ {l : List PV}, sizesAre s l = true → ∀ p ∈ l, p.cells.length = s
  | [], _, _, h => by cases h
  | q :: l, h, p, hp => by
    simp only [sizesAre, Bool.and_eq_true, decide_eq_true_eq] at h
    rcases List.mem_cons.1 hp with rfl | hp
    · exact h.1
    · exact sizesAre_spec h.2 p hp

theorem buildSliceA_sound {t : TypeId} {len : Nat} {parts : Array (Nat × Operand)} {s : Nat} {l : List PV} (hE : ∀ x q, evO cfg env x = some q → V w O ι q (ρ x)) (h : buildSliceA cfg env t len parts.toList = some (s, l)) :
    ∃ cells elem, (Instr.buildSlice t len (parts.map fun (i, x) => (i, ρ x))).run cfg.P w = .ok (.slice (some ⟨w.heap.size, 0, none⟩) len len) (w.alloc (.cells cells elem)) ∧
      l.length = len ∧ len * s ≤ cells.size ∧ RowR w O ι s cells l := by
  unfold buildSliceA at h
  split at h
  · rename_i elem hu
    split at h
    · rename_i s' z ps hs hz hps
      split at h
      · rename_i l' hl'
        split at h <;> cases h
        rename_i hc
        obtain ⟨h1, h2, h3, h4⟩ := hc
        unfold partsInOrder at hl'
        split at hl' <;> cases hl'
        rename_i hord
        have hPR := evParts_sound hE hps
        obtain ⟨i, v, hi, hv, hzv, hV⟩ := zeroO_spec hz
        have hvs : v.cells.size = s := by rw [← h2, ← (hV w O ι).cells.length]; simp
        have hlen : ps.length = len := by have := congrArg List.length hord; simpa using this
        have hxl : (parts.toList.map fun (i, x) => (i, ρ x)).length = len := by rw [← hlen]; have := congrArg List.length hPR.map_fst; simpa using this
        have hsz : ∀ x ∈ (parts.toList.map fun (i, x) => (i, ρ x)), x.2.cells.size = s := fun x hx => by
          obtain ⟨m, hm⟩ := List.mem_iff_getElem?.1 hx
          have hv2 := hPR.vals
          have hml : m < (ps.map (·.2)).length := by
            have := (List.getElem?_eq_some_iff.1 hm).1
            simpa [hlen, ← hxl] using this
          obtain ⟨x', hx', hVx⟩ := hv2.get m _ (List.getElem?_eq_getElem hml)
          rw [List.getElem?_map, hm] at hx'
          cases hx'
          have := hVx.cells.length
          rw [Array.length_toList] at this
          rw [this]
          exact sizesAre_spec h1 _ (List.getElem_mem hml)
        obtain ⟨cells', hf, hcs, _, hget⟩ := fillRow s (parts.toList.map fun (i, x) => (i, ρ x)) 0 ((Array.range (len * s)).map (v.cells[· % v.cells.size]!)) (by rw [hPR.map_fst, hord, hxl, List.range_eq_range']) hsz (by simp [hxl])
        refine ⟨cells', elem, ?_, by simp [hlen], by simp [hcs], ?_⟩
        · have hcells : ((Array.range (len * s)).map ((if len * s = 0 then #[] else v.cells)[· % (if len * s = 0 then #[] else v.cells).size]!)) = (Array.range (len * s)).map (v.cells[· % v.cells.size]!) := by
            by_cases h0 : len * s = 0
            · rw [h0]; simp
            · rw [if_neg h0]
          unfold Instr.buildSlice
          rw [Sem.run_bind, run_underlying hu w, Result.andThen_ok]
          simp only [Sem.run_bind, run_sizeOf hs, Result.andThen_ok]
          have hle : ¬ len * s > 2 ^ 24 := by
            have : (2 : Nat) ^ 20 ≤ 2 ^ 24 := by decide
            omega
          by_cases h0 : len * s = 0
          · rw [if_neg hle]
            simp only [h0, if_true, Sem.run_pure, Result.andThen_ok, Sem.run_bind] at hcells ⊢
            rw [Array.toList_map]
            simp only [h0] at hf
            rw [hcells, hf]
            simp [newRow]
          · rw [if_neg hle]
            simp only [h0, if_false, Sem.run_pure, Result.andThen_ok, Sem.run_bind, run_zeroValue hi hv] at hcells ⊢
            rw [Array.toList_map, hf]
            simp [newRow]
        · intro m p hp
          obtain ⟨y, hy, hVy⟩ := hPR.vals.get m p hp
          refine ⟨y, hVy, ?_, fun j z hz => by have := hget m y hy j z hz; rwa [Nat.zero_add] at this⟩
          obtain ⟨x, hx⟩ : ∃ x ∈ (parts.toList.map fun (i, x) => (i, ρ x)), x.2 = y := by
            obtain ⟨x, hx, hx2⟩ := List.mem_map.1 (List.mem_of_getElem? hy)
            exact ⟨x, hx, hx2⟩
          rw [← hx.2]
          exact hsz x hx.1
      · cases h
    · cases h
  · cases h

theorem makeSliceA_sound {t : TypeId} {le c : Operand} {s : Nat} {l : List PV} (hE : ∀ x q, evO cfg env x = some q → V w O ι q (ρ x)) (h : makeSliceA cfg env t le c = some (s, l)) :
    ∃ cells elem, (Instr.makeSlice t (ρ le) (ρ c)).run cfg.P w = .ok (.slice (some ⟨w.heap.size, 0, none⟩) l.length l.length) (w.alloc (.cells cells elem)) ∧
      l.length * s ≤ cells.size ∧ ∀ ι', RowR w O ι' s cells l := by
  unfold makeSliceA at h
  split at h
  · rename_i elem hu
    split at h
    · rename_i s' z n c' hs hz hn hc
      split at h
      · rename_i i hi
        split at h <;> cases h
        rename_i hcond
        obtain ⟨rfl, h2, h3, h4, h5⟩ := hcond
        obtain ⟨i', v, hi', hv, hzv, hV⟩ := zeroO_spec hz
        rw [hi] at hi'
        cases hi'
        obtain ⟨i'', hi'', hsz⟩ := szO_spec hs
        rw [hi] at hi''
        cases hi''
        obtain ⟨kl, hl⟩ := nat_operand hE hn
        obtain ⟨kc, hcc⟩ := nat_operand hE hc
        have hvs : v.cells.size = s := by rw [← h2, ← (hV w O ι).cells.length]; simp
        have hb : (i.bytes : Int) * (n : Int) ≤ 281474976710656 := by
          have : i.bytes * n ≤ 281474976710656 := Nat.le_trans h4 (by decide)
          have h6 : ((i.bytes * n : Nat) : Int) ≤ 281474976710656 := by omega
          rwa [Int.natCast_mul] at h6
        have h63 : (n : Int) ≤ 9223372036854775807 := by
          have : (2 : Nat) ^ 40 ≤ 9223372036854775807 := by decide
          omega
        have hr := run_make (P := cfg.P) w t elem i v hu hi hv kl kc n n (by omega) (Int.le_refl _) hb h63
        simp only [Int.toNat_natCast] at hr
        refine ⟨madeCells v.cells (n * i.size), elem, by rw [hl, hcc, hr]; simp, ?_, ?_⟩
        · simp [size_madeCells, hsz]
        · intro ι' m p hp
          rw [List.getElem?_replicate] at hp
          split at hp <;> cases hp
          rename_i hm
          refine ⟨v, hV w O ι', hvs, fun j y hy => ?_⟩
          have hj : j < s := by have := (List.getElem?_eq_some_iff.1 hy).1; simpa [hvs] using this
          have hlt : m * s + j < n * i.size := by
            rw [hsz]
            have : (m + 1) * s ≤ n * s := Nat.mul_le_mul_right _ hm
            rw [Nat.add_mul] at this
            omega
          have hmod : (m * s + j) % v.cells.size = j := by rw [hvs, Nat.mul_comm, Nat.mul_add_mod, Nat.mod_eq_of_lt hj]
          have hy' : v.cells[j]? = some y := by simpa using hy
          simp only [madeCells, Array.getElem?_map, Array.getElem?_range, hlt, if_true, Option.map_some, Option.some.injEq]
          rw [hmod]
          rw [getElem!_pos v.cells j (by omega)]
          exact (Array.getElem?_eq_some_iff.1 hy').2
      · cases h
    · cases h
  · cases h
end
end Go.Proofs.YtddaogebacigbaaGreatDoor.RV
