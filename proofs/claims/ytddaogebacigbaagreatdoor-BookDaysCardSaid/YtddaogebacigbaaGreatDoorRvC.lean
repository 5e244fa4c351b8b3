/- A part of the evaluator over abstract values, and that it is right (RvC). Conditions: none. -/
import Derived.Test.YtddaogebacigbaaGreatDoorRvB
import Derived.Deep.MidRow
import Derived.Laws.AppendOwn
import Derived.Laws.MakeOwn
set_option linter.constructorNameAsVariable false
namespace Go.Proofs.YtddaogebacigbaaGreatDoor.RV
open Go.RowKit (Below)

section
variable {w w' : World} {O O' : Nat → Prop} {ι ι' : Iota}

theorem Ext.refl : Ext w O ι w O ι := ⟨fun _ _ h => ⟨h, rfl⟩, fun _ _ _ h => h⟩
theorem V.lift {p : PV} {x : Value} (h : V w O iota0 p x) : V w O ι p x := V.mono (Ext.refl (ι := ι)).up p x h
theorem VL.lift {l : List PV} {xs : List Value} (h : VL w O iota0 l xs) : VL w O ι l xs := VL.mono (Ext.refl (ι := ι)).up l xs h
/-- Fewer blocks are held: no less reads. -/
theorem V.anti {p : PV} {x : Value} (h : V w O ι p x) (hO : ∀ b, O' b → O b) : V w O' ι p x := V.mono ⟨fun b _ hb => ⟨fun h' => hb (hO b h'), rfl⟩, fun _ _ _ h => h⟩ p x h

theorem VL.nil_iff {xs : List Value} : VL w O ι [] xs ↔ xs = [] := by simp only [VL]
theorem VL.cons_iff {p : PV} {ps : List PV} {xs : List Value} : VL w O ι (p :: ps) xs ↔ ∃ y ys, xs = y :: ys ∧ V w O ι p y ∧ VL w O ι ps ys := by simp only [VL]
theorem VL.cons {p : PV} {ps : List PV} {y : Value} {ys : List Value} (h : V w O ι p y) (hs : VL w O ι ps ys) : VL w O ι (p :: ps) (y :: ys) := VL.cons_iff.2 ⟨y, ys, rfl, h, hs⟩

theorem VL.length : ∀ {l : List PV} {xs : List Value}, VL w O ι l xs → xs.length = l.length
  | [], _, h => by rw [VL.nil_iff] at h; subst h; rfl
  | _ :: _, _, h => by
    obtain ⟨y, ys, rfl, _, hs⟩ := VL.cons_iff.1 h
    simp [VL.length hs]

theorem VL.get : ∀ {l : List PV} {xs : List Value}, VL w O ι l xs → ∀ (i : Nat) (p : PV), l[i]? = some p → ∃ x, xs[i]? = some x ∧ V w O ι p x
  | [], _, _, i, p, hp => by simp at hp
  | q :: l, _, h, i, p, hp => by
    obtain ⟨y, ys, rfl, hy, hs⟩ := VL.cons_iff.1 h
    cases i with
    | zero => simp at hp; subst hp; exact ⟨y, by simp, hy⟩
    | succ i => simpa using VL.get hs i p (by simpa using hp)

theorem VL.take : ∀ {l : List PV} {xs : List Value}, VL w O ι l xs → ∀ n, VL w O ι (l.take n) (xs.take n)
  | [], _, h, n => by rw [VL.nil_iff] at h; subst h; simp [VL.nil_iff]
  | q :: l, _, h, n => by
    obtain ⟨y, ys, rfl, hy, hs⟩ := VL.cons_iff.1 h
    cases n with
    | zero => simp [VL.nil_iff]
    | succ n => simpa using VL.cons hy (VL.take hs n)
theorem VL.drop : ∀ {l : List PV} {xs : List Value}, VL w O ι l xs → ∀ n, VL w O ι (l.drop n) (xs.drop n)
  | [], _, h, n => by rw [VL.nil_iff] at h; subst h; simp [VL.nil_iff]
  | q :: l, _, h, n => by
    obtain ⟨y, ys, rfl, hy, hs⟩ := VL.cons_iff.1 h
    cases n with
    | zero => simpa using VL.cons hy hs
    | succ n => simpa using VL.drop hs n
theorem VL.append : ∀ {l : List PV} {xs : List Value} {l' : List PV} {xs' : List Value}, VL w O ι l xs → VL w O ι l' xs' → VL w O ι (l ++ l') (xs ++ xs')
  | [], _, _, _, h, h' => by rw [VL.nil_iff] at h; subst h; simpa using h'
  | q :: l, _, _, _, h, h' => by
    obtain ⟨y, ys, rfl, hy, hs⟩ := VL.cons_iff.1 h
    simpa using VL.cons hy (VL.append hs h')
theorem VL.lits : ∀ (xs : List Value), VL w O ι (xs.map .lit) xs
  | [] => by simp [VL.nil_iff]
  | x :: xs => by simpa using VL.cons (by simp only [V]) (VL.lits xs)

theorem V.lit_iff {v x : Value} : V w O ι (.lit v) x ↔ x = v := by simp only [V]
theorem V.agg_iff {l : List PV} {x : Value} : V w O ι (.agg l) x ↔ ∃ xs, x = .agg xs ∧ VL w O ι l xs.toList := by simp only [V]
theorem V.tup_iff {l : List PV} {x : Value} : V w O ι (.tup l) x ↔ ∃ xs, x = .tuple xs ∧ VL w O ι l xs.toList := by simp only [V]

/-- A value's cells. -/
theorem V.cells {p : PV} {x : Value} (h : V w O ι p x) : VL w O ι p.cells x.cells.toList := by
  cases p with
  | agg l => obtain ⟨xs, rfl, hl⟩ := V.agg_iff.1 h; simpa [PV.cells, Value.cells] using hl
  | lit v =>
    obtain rfl := V.lit_iff.1 h
    cases x <;> simp only [PV.cells, Value.cells] <;> first | exact VL.lits _ | exact VL.cons (V.lit_iff.2 rfl) (VL.nil_iff.2 rfl)
  | _ =>
    have h' := h
    simp only [V] at h'
    simp only [PV.cells]
    have hx : ∀ xs, x ≠ .agg xs := by rintro xs rfl; simp at h'
    have : x.cells.toList = [x] := by cases x <;> first | rfl | exact absurd rfl (hx _)
    rw [this]
    exact VL.cons h (VL.nil_iff.2 rfl)

mutual
theorem toVal_sound : ∀ (p : PV) {x v : Value}, V w O ι p x → toVal p = some v → x = v
  | .lit _, x, v, h, hv => by simp only [toVal, Option.some.injEq] at hv; rw [V.lit_iff] at h; rw [h, hv]
  | .agg l, x, v, h, hv => by
    obtain ⟨xs, rfl, hl⟩ := V.agg_iff.1 h
    simp only [toVal] at hv
    split at hv <;> cases hv
    rename_i ys hys
    rw [← toVals_sound l hl hys]
  | .tup l, x, v, h, hv => by
    obtain ⟨xs, rfl, hl⟩ := V.tup_iff.1 h
    simp only [toVal] at hv
    split at hv <;> cases hv
    rename_i ys hys
    rw [← toVals_sound l hl hys]
  | .clo f a l, x, v, h, hv => by
    simp only [V] at h
    obtain ⟨ys, xs, rfl, ha, hl⟩ := h
    simp only [toVal] at hv
    split at hv <;> try cases hv
    rename_i zs hzs
    split at hv <;> cases hv
    rename_i us hus
    rw [← toVals_sound l hl hus, ← toVals_sound a ha hzs]
  | .iface t q, x, v, h, hv => by
    simp only [V] at h
    obtain ⟨y, rfl, hy⟩ := h
    simp only [toVal] at hv
    split at hv <;> cases hv
    rename_i z hz
    rw [toVal_sound q hy hz]
  | .own .., _, _, _, hv => by simp [toVal] at hv
  | .ptr .., _, _, _, hv => by simp [toVal] at hv
  | .dsl .., _, _, _, hv => by simp [toVal] at hv
  | .dptr .., _, _, _, hv => by simp [toVal] at hv
  | .map .., _, _, _, hv => by simp [toVal] at hv
  | .iter .., _, _, _, hv => by simp [toVal] at hv
  | .dmap .., _, _, _, hv => by simp [toVal] at hv
  | .asl .., _, _, _, hv => by simp [toVal] at hv
theorem toVals_sound : ∀ (l : List PV) {xs vs : List Value}, VL w O ι l xs → toVals l = some vs → xs = vs
  | [], _, _, h, hv => by simp only [toVals, Option.some.injEq] at hv; rw [VL.nil_iff] at h; rw [h, hv]
  | p :: ps, xs, vs, h, hv => by
    obtain ⟨y, ys, rfl, hy, hs⟩ := VL.cons_iff.1 h
    simp only [toVals] at hv
    split at hv <;> try cases hv
    rename_i z hz
    split at hv <;> cases hv
    rename_i zs hzs
    rw [toVal_sound p hy hz, toVals_sound ps hs hzs]
end

theorem V.ofVal1 (v : Value) : V w O ι (ofVal1 v) v := by
  cases v <;> simp only [RV.ofVal1] <;> first | exact V.lit_iff.2 rfl | exact V.agg_iff.2 ⟨_, rfl, VL.lits _⟩
theorem VL.ofVal1 : ∀ (xs : List Value), VL w O ι (xs.map RV.ofVal1) xs
  | [] => by simp [VL.nil_iff]
  | x :: xs => by simpa using VL.cons (V.ofVal1 x) (VL.ofVal1 xs)
theorem V.ofVal (v : Value) : V w O ι (ofVal v) v := by
  cases v <;> simp only [RV.ofVal] <;> first | exact V.ofVal1 _ | exact V.tup_iff.2 ⟨_, rfl, VL.ofVal1 _⟩

mutual
theorem deepB_sound : ∀ (p : PV) {x : Value}, V w O ι p x → deepB p = true → V w O iota0 p x
  | .lit _, _, h, _ => by simp only [V] at h ⊢; exact h
  | .agg l, _, h, hd => by
    obtain ⟨xs, rfl, hl⟩ := V.agg_iff.1 h
    exact V.agg_iff.2 ⟨xs, rfl, deepL_sound l hl (by simpa [deepB] using hd)⟩
  | .tup l, _, h, hd => by
    obtain ⟨xs, rfl, hl⟩ := V.tup_iff.1 h
    exact V.tup_iff.2 ⟨xs, rfl, deepL_sound l hl (by simpa [deepB] using hd)⟩
  | .clo f a l, _, h, hd => by
    simp only [V] at h ⊢
    obtain ⟨ys, xs, rfl, ha, hl⟩ := h
    simp only [deepB, Bool.and_eq_true] at hd
    exact ⟨ys, xs, rfl, deepL_sound a ha hd.1, deepL_sound l hl hd.2⟩
  | .iface t q, _, h, hd => by
    simp only [V] at h ⊢
    obtain ⟨y, rfl, hy⟩ := h
    exact ⟨y, rfl, deepB_sound q hy (by simpa [deepB] using hd)⟩
  | .dsl .., _, h, _ => by simp only [V] at h ⊢; exact h
  | .dptr .., _, h, _ => by simp only [V] at h ⊢; exact h
  | .dmap .., _, h, _ => by simp only [V] at h ⊢; exact h
  | .own .., _, _, hd => by simp [deepB] at hd
  | .ptr .., _, _, hd => by simp [deepB] at hd
  | .map .., _, _, hd => by simp [deepB] at hd
  | .iter .., _, _, hd => by simp [deepB] at hd
  | .asl .., _, _, hd => by simp [deepB] at hd
theorem deepL_sound : ∀ (l : List PV) {xs : List Value}, VL w O ι l xs → deepL l = true → VL w O iota0 l xs
  | [], _, h, _ => by rw [VL.nil_iff] at h ⊢; exact h
  | p :: ps, _, h, hd => by
    obtain ⟨y, ys, rfl, hy, hs⟩ := VL.cons_iff.1 h
    simp only [deepL, Bool.and_eq_true] at hd
    exact VL.cons (deepB_sound p hy hd.1) (deepL_sound ps hs hd.2)
end

/-! ### Elements -/
theorem VE.nil {s b o : Nat} : VE w O ι s b o [] := by simp only [VE]
theorem VE.cons_iff {s b o : Nat} {p : PV} {ps : List PV} : VE w O ι s b o (p :: ps) ↔ (∃ y, V w O ι p y ∧ y.cells.size = s ∧ CellsAt w b o y.cells.toList) ∧ VE w O ι s b (o + s) ps := by simp only [VE]
theorem VE.get {s b : Nat} : ∀ {l : List PV} {o : Nat}, VE w O ι s b o l → ∀ (i : Nat) (p : PV), l[i]? = some p → ∃ y, V w O ι p y ∧ y.cells.size = s ∧ CellsAt w b (o + i * s) y.cells.toList
  | [], _, _, i, p, hp => by simp at hp
  | q :: l, o, h, i, p, hp => by
    obtain ⟨h1, h2⟩ := VE.cons_iff.1 h
    cases i with
    | zero => simp at hp; subst hp; simpa using h1
    | succ i =>
      obtain ⟨y, hy, hs, hc⟩ := VE.get h2 i p (by simpa using hp)
      exact ⟨y, hy, hs, by rw [show o + (i + 1) * s = o + s + i * s by rw [Nat.add_mul]; omega]; exact hc⟩
theorem VE.of_get {s b : Nat} : ∀ {l : List PV} {o : Nat}, (∀ (i : Nat) (p : PV), l[i]? = some p → ∃ y, V w O ι p y ∧ y.cells.size = s ∧ CellsAt w b (o + i * s) y.cells.toList) → VE w O ι s b o l
  | [], _, _ => VE.nil
  | q :: l, o, h => by
    refine VE.cons_iff.2 ⟨by simpa using h 0 q (by simp), VE.of_get fun i p hp => ?_⟩
    obtain ⟨y, hy, hs, hc⟩ := h (i + 1) p (by simpa using hp)
    exact ⟨y, hy, hs, by rw [show o + (i + 1) * s = o + s + i * s by rw [Nat.add_mul]; omega] at hc; exact hc⟩
theorem VE.drop {s b o : Nat} {l : List PV} (h : VE w O ι s b o l) (n : Nat) : VE w O ι s b (o + n * s) (l.drop n) :=
  VE.of_get fun i p hp => by
    rw [List.getElem?_drop] at hp
    obtain ⟨y, hy, hs, hc⟩ := h.get _ p hp
    exact ⟨y, hy, hs, by rw [Nat.add_mul, ← Nat.add_assoc] at hc; exact hc⟩
theorem VE.take {s b o : Nat} {l : List PV} (h : VE w O ι s b o l) (n : Nat) : VE w O ι s b o (l.take n) :=
  VE.of_get fun i p hp => by
    rw [List.getElem?_take] at hp
    split at hp
    · exact h.get i p hp
    · cases hp
end
end Go.Proofs.YtddaogebacigbaaGreatDoor.RV
