/- A part of the evaluator over abstract values, and that it is right (RvA). Conditions: none. -/
import Derived.Orders
import Derived.Below
namespace Go.Proofs.YtddaogebacigbaaGreatDoor.RV

/-! ### Tables by number -/
inductive Tr (α : Type) where
  | e
  | n (v : Option α) (l r : Tr α)

def Tr.get {α : Type} : Tr α → Nat → Option α
  | .e, _ => none
  | .n v l r, k => match k with
    | 0 => v
    | j + 1 => match j % 2 with
      | 0 => l.get (j / 2)
      | _ => r.get (j / 2)

def Tr.set {α : Type} : Nat → Tr α → Nat → α → Tr α
  | 0, t, _, _ => t
  | f + 1, t, k, x =>
    let (v, l, r) := match t with | .e => (none, .e, .e) | .n v l r => (v, l, r)
    match k with
    | 0 => .n (some x) l r
    | j + 1 => match j % 2 with
      | 0 => .n v (l.set f (j / 2) x) r
      | _ => .n v l (r.set f (j / 2) x)

/-- Enough for a number's place. -/
@[irreducible] def depth (k : Nat) : Nat := (k + 1).log2 + 1
theorem depth_ok (k : Nat) : k + 1 < 2 ^ depth k := by unfold depth; exact Nat.lt_log2_self
@[irreducible] def Tr.put {α : Type} (t : Tr α) (k : Nat) (x : α) : Tr α := Tr.set (depth k) t k x

theorem Tr.put_eq {α : Type} (t : Tr α) (k : Nat) (x : α) : t.put k x = Tr.set (depth k) t k x := by unfold Tr.put; rfl

theorem Tr.get_set {α : Type} : ∀ (f : Nat) (t : Tr α) (k : Nat) (x : α) (q : Nat), k + 1 < 2 ^ f → (t.set f k x).get q = if q = k then some x else t.get q
  | 0, _, k, _, _, h => by simp at h
  | f + 1, t, k, x, q, h => by
    have h2 : 2 ^ (f + 1) = 2 * 2 ^ f := by rw [Nat.pow_succ]; omega
    cases k with
    | zero =>
      cases t <;> cases q <;> simp [Tr.set, Tr.get]
      split <;> rfl
    | succ j =>
      have ih := fun l : Tr α => Tr.get_set f l (j / 2) x
      cases hm : j % 2 with
      | zero =>
        cases t with
        | e =>
          cases q with
          | zero => simp [Tr.set, Tr.get, hm]
          | succ p =>
            cases hp : p % 2 with
            | zero =>
              simp only [Tr.set, Tr.get, hm, hp]
              rw [ih _ _ (by omega)]
              simp only [Tr.get]
              by_cases e : p = j
              · subst e; simp
              · rw [if_neg (by omega), if_neg (by omega)]
            | succ z =>
              simp only [Tr.set, Tr.get, hm, hp]
              rw [if_neg (by omega)]
        | n v l r =>
          cases q with
          | zero => simp [Tr.set, Tr.get, hm]
          | succ p =>
            cases hp : p % 2 with
            | zero =>
              simp only [Tr.set, Tr.get, hm, hp]
              rw [ih _ _ (by omega)]
              by_cases e : p = j
              · subst e; simp
              · rw [if_neg (by omega), if_neg (by omega)]
            | succ z =>
              simp only [Tr.set, Tr.get, hm, hp]
              rw [if_neg (by omega)]
      | succ z0 =>
        cases t with
        | e =>
          cases q with
          | zero => simp [Tr.set, Tr.get, hm]
          | succ p =>
            cases hp : p % 2 with
            | zero =>
              simp only [Tr.set, Tr.get, hm, hp]
              rw [if_neg (by omega)]
            | succ z =>
              simp only [Tr.set, Tr.get, hm, hp]
              rw [ih _ _ (by omega)]
              simp only [Tr.get]
              by_cases e : p = j
              · subst e; simp
              · rw [if_neg (by omega), if_neg (by omega)]
        | n v l r =>
          cases q with
          | zero => simp [Tr.set, Tr.get, hm]
          | succ p =>
            cases hp : p % 2 with
            | zero =>
              simp only [Tr.set, Tr.get, hm, hp]
              rw [if_neg (by omega)]
            | succ z =>
              simp only [Tr.set, Tr.get, hm, hp]
              rw [ih _ _ (by omega)]
              by_cases e : p = j
              · subst e; simp
              · rw [if_neg (by omega), if_neg (by omega)]

theorem Tr.set_comm {α : Type} : ∀ (f g : Nat) (t : Tr α) (k q : Nat) (x y : α), k + 1 < 2 ^ f → q + 1 < 2 ^ g → k ≠ q → (t.set f k x).set g q y = (t.set g q y).set f k x
  | 0, _, _, k, _, _, _, h, _, _ => by simp at h
  | _ + 1, 0, _, _, q, _, _, _, h, _ => by simp at h
  | f + 1, g + 1, t, k, q, x, y, hf, hg, h => by
    have hf2 : 2 ^ (f + 1) = 2 * 2 ^ f := by rw [Nat.pow_succ]; omega
    have hg2 : 2 ^ (g + 1) = 2 * 2 ^ g := by rw [Nat.pow_succ]; omega
    cases k with
    | zero =>
      cases q with
      | zero => exact absurd rfl h
      | succ p => cases t <;> cases hp : p % 2 <;> simp only [Tr.set, hp]
    | succ j =>
      cases q with
      | zero => cases t <;> cases hj : j % 2 <;> simp only [Tr.set, hj]
      | succ p =>
        have ih := fun (l : Tr α) (hh : j / 2 ≠ p / 2) => Tr.set_comm f g l (j / 2) (p / 2) x y (by omega) (by omega) hh
        cases hj : j % 2 <;> cases hp : p % 2 <;> cases t <;> simp only [Tr.set, hj, hp] <;> rw [ih _ (by omega)]

/-! ### Abstract values -/
inductive PV where
  | lit (v : Value)
  | agg (l : List PV)
  | tup (l : List PV)
  | own (id ver s off len : Nat) (cap : Option Nat)
  | ptr (id ver idx off : Nat)
  | dsl (s : Nat) (l : List PV) (cap : Option Nat)
  | dptr (l : List PV) (off : Nat)
  | clo (f : FuncId) (a l : List PV)
  | iface (t : TypeId) (v : PV)
  | map (id ver : Nat)
  | iter (id ver : Nat)
  | dmap (ks : List Value) (vs : List PV) (bs : List Nat) (clock : Nat)
  | asl (id ver idx off len : Nat)
  deriving Inhabited

def PV.cells : PV → List PV
  | .agg l => l
  | .lit (.agg cs) => cs.toList.map .lit
  | v => [v]

def PV.scalar : PV → Bool
  | .agg _ | .tup _ | .lit (.agg _) | .lit (.tuple _) => false
  | _ => true

structure Loc where
  b : Nat
  base : Nat
  ce : Nat
  s : Nat

abbrev Iota := Nat → Nat → Option Loc
def iota0 : Iota := fun _ _ => none

/-- The cells from 'o' on of block 'b'. -/
def CellsAt (w : World) (b o : Nat) (ys : List Value) : Prop :=
  ∃ cs t fz, w.heap[b]? = some (.cells cs t fz) ∧ ∀ i y, ys[i]? = some y → cs[o + i]? = some y

mutual
def V (w : World) (O : Nat → Prop) (ι : Iota) : PV → Value → Prop
  | .lit v, x => x = v
  | .agg l, x => ∃ xs, x = .agg xs ∧ VL w O ι l xs.toList
  | .tup l, x => ∃ xs, x = .tuple xs ∧ VL w O ι l xs.toList
  | .own id ver s off len cap, x => ∃ L c, ι id ver = some L ∧ L.s = s ∧ x = .slice (some ⟨L.b, L.base + off * s, none⟩) len c ∧ L.base + off * s + c * s ≤ L.ce ∧ len ≤ c ∧ (∀ k, cap = some k → c = k)
  | .ptr id ver idx off, x => ∃ L, ι id ver = some L ∧ x = .pointer (some ⟨L.b, L.base + idx * L.s + off, none⟩)
  | .dsl s l cap, x => ∃ a c, x = .slice a l.length c ∧ l.length ≤ c ∧ (∀ k, cap = some k → c = k) ∧ (l = [] ∨ ∃ b o, a = some ⟨b, o, none⟩ ∧ ¬ O b ∧ VE w O iota0 s b o l)
  | .dptr l off, x => ∃ b o ys, x = .pointer (some ⟨b, o + off, none⟩) ∧ ¬ O b ∧ CellsAt w b o ys ∧ VL w O iota0 l ys
  | .clo f a l, x => ∃ ys xs, x = .func (.func f) ys xs ∧ VL w O ι a ys.toList ∧ VL w O ι l xs.toList
  | .iface t v, x => ∃ y, x = .iface t y ∧ V w O ι v y
  | .map id ver, x => ∃ L, ι id ver = some L ∧ x = .map (some L.b)
  | .iter id ver, x => ∃ L, ι id ver = some L ∧ x = .pointer (some ⟨L.b, 0, none⟩)
  | .dmap ks vs bs clock, x => ∃ b ents, x = .map (some b) ∧ ¬ O b ∧ w.heap[b]? = some (.map ents clock) ∧ ks = ents.toList.map (·.key) ∧ bs = ents.toList.map (·.born) ∧ VL w O iota0 vs (ents.toList.map (·.val))
  | .asl id ver idx off len, x => ∃ L c, ι id ver = some L ∧ x = .slice (some ⟨L.b, L.base + idx * L.s + off, none⟩) len c
def VL (w : World) (O : Nat → Prop) (ι : Iota) : List PV → List Value → Prop
  | [], xs => xs = []
  | p :: ps, xs => ∃ y ys, xs = y :: ys ∧ V w O ι p y ∧ VL w O ι ps ys
/-- Elements of 's' cells each, from 'o' on. -/
def VE (w : World) (O : Nat → Prop) (ι : Iota) (s b o : Nat) : List PV → Prop
  | [] => True
  | p :: ps => (∃ y, V w O ι p y ∧ y.cells.size = s ∧ CellsAt w b o y.cells.toList) ∧ VE w O ι s b (o + s) ps
end

/-- What a step leaves as it was. -/
structure Ext (w : World) (O : Nat → Prop) (ι : Iota) (w' : World) (O' : Nat → Prop) (ι' : Iota) : Prop where
  block : ∀ b, b < w.heap.size → ¬ O b → ¬ O' b ∧ w'.heap[b]? = w.heap[b]?
  iota : ∀ id ver L, ι id ver = some L → ι' id ver = some L

theorem CellsAt.lt {w : World} {b o : Nat} {ys : List Value} (h : CellsAt w b o ys) : b < w.heap.size := by
  obtain ⟨cs, t, fz, h, _⟩ := h
  exact (Array.getElem?_eq_some_iff.1 h).1
theorem CellsAt.of_block {w w' : World} {b o : Nat} {ys : List Value} (h : CellsAt w b o ys) (hb : w'.heap[b]? = w.heap[b]?) : CellsAt w' b o ys := by
  obtain ⟨cs, t, fz, h, h'⟩ := h
  exact ⟨cs, t, fz, hb.trans h, h'⟩

section
variable {w w' : World} {O O' : Nat → Prop}
theorem Ext.iota0 {ι ι' : Iota} (h : Ext w O ι w' O' ι') : Ext w O RV.iota0 w' O' RV.iota0 := ⟨h.block, fun _ _ _ h => by cases h⟩
theorem Ext.up {ι ι' : Iota} (h : Ext w O ι w' O' ι') : Ext w O RV.iota0 w' O' ι' := ⟨h.block, fun _ _ _ h => by cases h⟩
mutual
theorem V.mono {ι ι' : Iota} (h : Ext w O ι w' O' ι') : ∀ (p : PV) (x : Value), V w O ι p x → V w' O' ι' p x
  | .lit _, _, hv => by simp only [V] at hv ⊢; exact hv
  | .agg l, x, hv => by
    simp only [V] at hv ⊢
    obtain ⟨xs, rfl, hl⟩ := hv
    exact ⟨xs, rfl, VL.mono h l _ hl⟩
  | .tup l, x, hv => by
    simp only [V] at hv ⊢
    obtain ⟨xs, rfl, hl⟩ := hv
    exact ⟨xs, rfl, VL.mono h l _ hl⟩
  | .own .., x, hv => by
    simp only [V] at hv ⊢
    obtain ⟨L, c, hL, r⟩ := hv
    exact ⟨L, c, h.iota _ _ _ hL, r⟩
  | .ptr .., x, hv => by
    simp only [V] at hv ⊢
    obtain ⟨L, hL, r⟩ := hv
    exact ⟨L, h.iota _ _ _ hL, r⟩
  | .dsl s l _, x, hv => by
    simp only [V] at hv ⊢
    obtain ⟨a, c, rfl, hc, hk, r⟩ := hv
    refine ⟨a, c, rfl, hc, hk, ?_⟩
    rcases r with rfl | ⟨b, o, rfl, hO, hE⟩
    · exact .inl rfl
    · match l, hE with
      | [], _ => exact .inl rfl
      | p :: ps, hE =>
        have hlt : b < w.heap.size := by
          have hE' := hE
          simp only [VE] at hE'
          obtain ⟨⟨y, _, _, hc⟩, _⟩ := hE'
          exact hc.lt
        exact .inr ⟨b, o, rfl, (h.block b hlt hO).1, VE.mono h.iota0 (h.block b hlt hO).2 (p :: ps) o hE⟩
  | .dptr l off, x, hv => by
    simp only [V] at hv ⊢
    obtain ⟨b, o, ys, rfl, hO, hc, hl⟩ := hv
    exact ⟨b, o, ys, rfl, (h.block b hc.lt hO).1, hc.of_block (h.block b hc.lt hO).2, VL.mono h.iota0 l _ hl⟩
  | .clo f a l, x, hv => by
    simp only [V] at hv ⊢
    obtain ⟨ys, xs, rfl, ha, hl⟩ := hv
    exact ⟨ys, xs, rfl, VL.mono h a _ ha, VL.mono h l _ hl⟩
  | .iface t v, x, hv => by
    simp only [V] at hv ⊢
    obtain ⟨y, rfl, hy⟩ := hv
    exact ⟨y, rfl, V.mono h v y hy⟩
  | .map .., x, hv => by
    simp only [V] at hv ⊢
    obtain ⟨L, hL, r⟩ := hv
    exact ⟨L, h.iota _ _ _ hL, r⟩
  | .iter .., x, hv => by
    simp only [V] at hv ⊢
    obtain ⟨L, hL, r⟩ := hv
    exact ⟨L, h.iota _ _ _ hL, r⟩
  | .dmap .., x, hv => by
    simp only [V] at hv ⊢
    obtain ⟨b, ents, rfl, hO, hb, hk, hbs, hl⟩ := hv
    have hlt : b < w.heap.size := (Array.getElem?_eq_some_iff.1 hb).1
    exact ⟨b, ents, rfl, (h.block b hlt hO).1, (h.block b hlt hO).2.trans hb, hk, hbs, VL.mono h.iota0 _ _ hl⟩
  | .asl .., x, hv => by
    simp only [V] at hv ⊢
    obtain ⟨L, c, hL, r⟩ := hv
    exact ⟨L, c, h.iota _ _ _ hL, r⟩
theorem VL.mono {ι ι' : Iota} (h : Ext w O ι w' O' ι') : ∀ (l : List PV) (xs : List Value), VL w O ι l xs → VL w' O' ι' l xs
  | [], _, hv => by simp only [VL] at hv ⊢; exact hv
  | p :: ps, xs, hv => by
    simp only [VL] at hv ⊢
    obtain ⟨y, ys, rfl, hy, hys⟩ := hv
    exact ⟨y, ys, rfl, V.mono h p y hy, VL.mono h ps ys hys⟩
theorem VE.mono {ι ι' : Iota} {s b : Nat} (h : Ext w O ι w' O' ι') (hb : w'.heap[b]? = w.heap[b]?) : ∀ (l : List PV) (o : Nat), VE w O ι s b o l → VE w' O' ι' s b o l
  | [], _, hv => by simp only [VE]
  | p :: ps, o, hv => by
    simp only [VE] at hv ⊢
    obtain ⟨⟨y, hy, hs, hc⟩, hps⟩ := hv
    exact ⟨⟨y, V.mono h p y hy, hs, hc.of_block hb⟩, VE.mono h hb ps _ hps⟩
end
end
end Go.Proofs.YtddaogebacigbaaGreatDoor.RV
