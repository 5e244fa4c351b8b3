/- The evaluator over abstract values, that it is right, its symbolic runs, in one text (part 1 of 2). Conditions: none. -/
import Derived.Orders
import Derived.Below
import Derived.Deep.MidRow
import Derived.Laws.AppendOwn
import Derived.Laws.MakeOwn
import Derived.Laws.BytesString
import Derived.Defers
import Derived.Lib.ItoaNum
import Derived.Lib.SlicesS
import Derived.Deep.Slices
import Derived.ChangeSame
import Derived.ChangeArms
import Derived.Carry
import Derived.SizedLaws
import Derived.Scope
section
namespace Go.Proofs.YthabndifdgafbaaGreatDoor.RV
inductive Tr (α : Type) where
  | e
  | n (v : Option α) (l r : Tr α)
def Tr.get {α : Type} : Tr α → Nat → Option α
  | .e, _ => none
  | .n v l r, k => match k with
    | 0 => v
    | j + 1 => match j % 2 with
      | 0 => l.get (j / 2)
      | _ => r.get (j / 2)
def Tr.set {α : Type} : Nat → Tr α → Nat → α → Tr α
  | 0, t, _, _ => t
  | f + 1, t, k, x =>
    let (v, l, r) := match t with | .e => (none, .e, .e) | .n v l r => (v, l, r)
    match k with
    | 0 => .n (some x) l r
    | j + 1 => match j % 2 with
      | 0 => .n v (l.set f (j / 2) x) r
      | _ => .n v l (r.set f (j / 2) x)
@[irreducible] def depth (k : Nat) : Nat := (k + 1).log2 + 1
theorem depth_ok (k : Nat) : k + 1 < 2 ^ depth k := by unfold depth; exact Nat.lt_log2_self
@[irreducible] def Tr.put {α : Type} (t : Tr α) (k : Nat) (x : α) : Tr α := Tr.set (depth k) t k x
theorem Tr.put_eq {α : Type} (t : Tr α) (k : Nat) (x : α) : t.put k x = Tr.set (depth k) t k x := by unfold Tr.put; rfl
theorem Tr.get_set {α : Type} : ∀ (f : Nat) (t : Tr α) (k : Nat) (x : α) (q : Nat), k + 1 < 2 ^ f → (t.set f k x).get q = if q = k then some x else t.get q
  | 0, _, k, _, _, h => by simp at h
  | f + 1, t, k, x, q, h => by
    have h2 : 2 ^ (f + 1) = 2 * 2 ^ f := by rw [Nat.pow_succ]; omega
    cases k with
    | zero =>
      cases t <;> cases q <;> simp [Tr.set, Tr.get]
      split <;> rfl
    | succ j =>
      have ih := fun l : Tr α => Tr.get_set f l (j / 2) x
      cases hm : j % 2 with
      | zero =>
        cases t with
        | e =>
          cases q with
          | zero => simp [Tr.set, Tr.get, hm]
          | succ p =>
            cases hp : p % 2 with
            | zero =>
              simp only [Tr.set, Tr.get, hm, hp]
              rw [ih _ _ (by omega)]
              simp only [Tr.get]
              by_cases e : p = j
              · subst e; simp
              · rw [if_neg (by omega), if_neg (by omega)]
            | succ z =>
              simp only [Tr.set, Tr.get, hm, hp]
              rw [if_neg (by omega)]
        | n v l r =>
          cases q with
          | zero => simp [Tr.set, Tr.get, hm]
          | succ p =>
            cases hp : p % 2 with
            | zero =>
              simp only [Tr.set, Tr.get, hm, hp]
              rw [ih _ _ (by omega)]
              by_cases e : p = j
              · subst e; simp
              · rw [if_neg (by omega), if_neg (by omega)]
            | succ z =>
              simp only [Tr.set, Tr.get, hm, hp]
              rw [if_neg (by omega)]
      | succ z0 =>
        cases t with
        | e =>
          cases q with
          | zero => simp [Tr.set, Tr.get, hm]
          | succ p =>
            cases hp : p % 2 with
            | zero =>
              simp only [Tr.set, Tr.get, hm, hp]
              rw [if_neg (by omega)]
            | succ z =>
              simp only [Tr.set, Tr.get, hm, hp]
              rw [ih _ _ (by omega)]
              simp only [Tr.get]
              by_cases e : p = j
              · subst e; simp
              · rw [if_neg (by omega), if_neg (by omega)]
        | n v l r =>
          cases q with
          | zero => simp [Tr.set, Tr.get, hm]
          | succ p =>
            cases hp : p % 2 with
            | zero =>
              simp only [Tr.set, Tr.get, hm, hp]
              rw [if_neg (by omega)]
            | succ z =>
              simp only [Tr.set, Tr.get, hm, hp]
              rw [ih _ _ (by omega)]
              by_cases e : p = j
              · subst e; simp
              · rw [if_neg (by omega), if_neg (by omega)]
theorem Tr.set_comm {α : Type} : ∀ (f g : Nat) (t : Tr α) (k q : Nat) (x y : α), k + 1 < 2 ^ f → q + 1 < 2 ^ g → k ≠ q → (t.set f k x).set g q y = (t.set g q y).set f k x
  | 0, _, _, k, _, _, _, h, _, _ => by simp at h
  | _ + 1, 0, _, _, q, _, _, _, h, _ => by simp at h
  | f + 1, g + 1, t, k, q, x, y, hf, hg, h => by
    have hf2 : 2 ^ (f + 1) = 2 * 2 ^ f := by rw [Nat.pow_succ]; omega
    have hg2 : 2 ^ (g + 1) = 2 * 2 ^ g := by rw [Nat.pow_succ]; omega
    cases k with
    | zero =>
      cases q with
      | zero => exact absurd rfl h
      | succ p => cases t <;> cases hp : p % 2 <;> simp only [Tr.set, hp]
    | succ j =>
      cases q with
      | zero => cases t <;> cases hj : j % 2 <;> simp only [Tr.set, hj]
      | succ p =>
        have ih := fun (l : Tr α) (hh : j / 2 ≠ p / 2) => Tr.set_comm f g l (j / 2) (p / 2) x y (by omega) (by omega) hh
        cases hj : j % 2 <;> cases hp : p % 2 <;> cases t <;> simp only [Tr.set, hj, hp] <;> rw [ih _ (by omega)]
inductive PV where
  | lit (v : Value)
  | agg (l : List PV)
  | tup (l : List PV)
  | own (id ver s off len : Nat) (cap : Option Nat)
  | ptr (id ver idx off : Nat)
  | dsl (s : Nat) (l : List PV) (cap : Option Nat)
  | dptr (l : List PV) (off : Nat)
  | clo (f : FuncId) (a l : List PV)
  | iface (t : TypeId) (v : PV)
  | map (id ver : Nat)
  | iter (id ver : Nat)
  | dmap (ks : List Value) (vs : List PV) (bs : List Nat) (clock : Nat)
  | asl (id ver idx off len : Nat)
  deriving Inhabited
def PV.cells : PV → List PV
  | .agg l => l
  | .lit (.agg cs) => cs.toList.map .lit
  | v => [v]
def PV.scalar : PV → Bool
  | .agg _ | .tup _ | .lit (.agg _) | .lit (.tuple _) => false
  | _ => true
structure Loc where
  b : Nat
  base : Nat
  ce : Nat
  s : Nat
abbrev Iota := Nat → Nat → Option Loc
def iota0 : Iota := fun _ _ => none
def CellsAt (w : World) (b o : Nat) (ys : List Value) : Prop :=
  ∃ cs t fz, w.heap[b]? = some (.cells cs t fz) ∧ ∀ i y, ys[i]? = some y → cs[o + i]? = some y
mutual
def V (w : World) (O : Nat → Prop) (ι : Iota) : PV → Value → Prop
  | .lit v, x => x = v
  | .agg l, x => ∃ xs, x = .agg xs ∧ VL w O ι l xs.toList
  | .tup l, x => ∃ xs, x = .tuple xs ∧ VL w O ι l xs.toList
  | .own id ver s off len cap, x => ∃ L c, ι id ver = some L ∧ L.s = s ∧ x = .slice (some ⟨L.b, L.base + off * s, none⟩) len c ∧ L.base + off * s + c * s ≤ L.ce ∧ len ≤ c ∧ (∀ k, cap = some k → c = k)
  | .ptr id ver idx off, x => ∃ L, ι id ver = some L ∧ x = .pointer (some ⟨L.b, L.base + idx * L.s + off, none⟩)
  | .dsl s l cap, x => ∃ a c, x = .slice a l.length c ∧ l.length ≤ c ∧ (∀ k, cap = some k → c = k) ∧ (l = [] ∨ ∃ b o, a = some ⟨b, o, none⟩ ∧ ¬ O b ∧ VE w O iota0 s b o l)
  | .dptr l off, x => ∃ b o ys, x = .pointer (some ⟨b, o + off, none⟩) ∧ ¬ O b ∧ CellsAt w b o ys ∧ VL w O iota0 l ys
  | .clo f a l, x => ∃ ys xs, x = .func (.func f) ys xs ∧ VL w O ι a ys.toList ∧ VL w O ι l xs.toList
  | .iface t v, x => ∃ y, x = .iface t y ∧ V w O ι v y
  | .map id ver, x => ∃ L, ι id ver = some L ∧ x = .map (some L.b)
  | .iter id ver, x => ∃ L, ι id ver = some L ∧ x = .pointer (some ⟨L.b, 0, none⟩)
  | .dmap ks vs bs clock, x => ∃ b ents, x = .map (some b) ∧ ¬ O b ∧ w.heap[b]? = some (.map ents clock) ∧ ks = ents.toList.map (·.key) ∧ bs = ents.toList.map (·.born) ∧ VL w O iota0 vs (ents.toList.map (·.val))
  | .asl id ver idx off len, x => ∃ L c, ι id ver = some L ∧ x = .slice (some ⟨L.b, L.base + idx * L.s + off, none⟩) len c
def VL (w : World) (O : Nat → Prop) (ι : Iota) : List PV → List Value → Prop
  | [], xs => xs = []
  | p :: ps, xs => ∃ y ys, xs = y :: ys ∧ V w O ι p y ∧ VL w O ι ps ys
def VE (w : World) (O : Nat → Prop) (ι : Iota) (s b o : Nat) : List PV → Prop
  | [] => True
  | p :: ps => (∃ y, V w O ι p y ∧ y.cells.size = s ∧ CellsAt w b o y.cells.toList) ∧ VE w O ι s b (o + s) ps
end
structure Ext (w : World) (O : Nat → Prop) (ι : Iota) (w' : World) (O' : Nat → Prop) (ι' : Iota) : Prop where
  block : ∀ b, b < w.heap.size → ¬ O b → ¬ O' b ∧ w'.heap[b]? = w.heap[b]?
  iota : ∀ id ver L, ι id ver = some L → ι' id ver = some L
theorem CellsAt.lt {w : World} {b o : Nat} {ys : List Value} (h : CellsAt w b o ys) : b < w.heap.size := by
  obtain ⟨cs, t, fz, h, _⟩ := h
  exact (Array.getElem?_eq_some_iff.1 h).1
theorem CellsAt.of_block {w w' : World} {b o : Nat} {ys : List Value} (h : CellsAt w b o ys) (hb : w'.heap[b]? = w.heap[b]?) : CellsAt w' b o ys := by
  obtain ⟨cs, t, fz, h, h'⟩ := h
  exact ⟨cs, t, fz, hb.trans h, h'⟩
section
variable {w w' : World} {O O' : Nat → Prop}
theorem Ext.iota0 {ι ι' : Iota} (h : Ext w O ι w' O' ι') : Ext w O RV.iota0 w' O' RV.iota0 := ⟨h.block, fun _ _ _ h => by cases h⟩
theorem Ext.up {ι ι' : Iota} (h : Ext w O ι w' O' ι') : Ext w O RV.iota0 w' O' ι' := ⟨h.block, fun _ _ _ h => by cases h⟩
mutual
theorem V.mono {ι ι' : Iota} (h : Ext w O ι w' O' ι') : ∀ (p : PV) (x : Value), V w O ι p x → V w' O' ι' p x
  | .lit _, _, hv => by simp only [V] at hv ⊢; exact hv
  | .agg l, x, hv => by
    simp only [V] at hv ⊢
    obtain ⟨xs, rfl, hl⟩ := hv
    exact ⟨xs, rfl, VL.mono h l _ hl⟩
  | .tup l, x, hv => by
    simp only [V] at hv ⊢
    obtain ⟨xs, rfl, hl⟩ := hv
    exact ⟨xs, rfl, VL.mono h l _ hl⟩
  | .own .., x, hv => by
    simp only [V] at hv ⊢
    obtain ⟨L, c, hL, r⟩ := hv
    exact ⟨L, c, h.iota _ _ _ hL, r⟩
  | .ptr .., x, hv => by
    simp only [V] at hv ⊢
    obtain ⟨L, hL, r⟩ := hv
    exact ⟨L, h.iota _ _ _ hL, r⟩
  | .dsl s l _, x, hv => by
    simp only [V] at hv ⊢
    obtain ⟨a, c, rfl, hc, hk, r⟩ := hv
    refine ⟨a, c, rfl, hc, hk, ?_⟩
    rcases r with rfl | ⟨b, o, rfl, hO, hE⟩
    · exact .inl rfl
    · match l, hE with
      | [], _ => exact .inl rfl
      | p :: ps, hE =>
        have hlt : b < w.heap.size := by
          have hE' := hE
          simp only [VE] at hE'
          obtain ⟨⟨y, _, _, hc⟩, _⟩ := hE'
          exact hc.lt
        exact .inr ⟨b, o, rfl, (h.block b hlt hO).1, VE.mono h.iota0 (h.block b hlt hO).2 (p :: ps) o hE⟩
  | .dptr l off, x, hv => by
    simp only [V] at hv ⊢
    obtain ⟨b, o, ys, rfl, hO, hc, hl⟩ := hv
    exact ⟨b, o, ys, rfl, (h.block b hc.lt hO).1, hc.of_block (h.block b hc.lt hO).2, VL.mono h.iota0 l _ hl⟩
  | .clo f a l, x, hv => by
    simp only [V] at hv ⊢
    obtain ⟨ys, xs, rfl, ha, hl⟩ := hv
    exact ⟨ys, xs, rfl, VL.mono h a _ ha, VL.mono h l _ hl⟩
  | .iface t v, x, hv => by
    simp only [V] at hv ⊢
    obtain ⟨y, rfl, hy⟩ := hv
    exact ⟨y, rfl, V.mono h v y hy⟩
  | .map .., x, hv => by
    simp only [V] at hv ⊢
    obtain ⟨L, hL, r⟩ := hv
    exact ⟨L, h.iota _ _ _ hL, r⟩
  | .iter .., x, hv => by
    simp only [V] at hv ⊢
    obtain ⟨L, hL, r⟩ := hv
    exact ⟨L, h.iota _ _ _ hL, r⟩
  | .dmap .., x, hv => by
    simp only [V] at hv ⊢
    obtain ⟨b, ents, rfl, hO, hb, hk, hbs, hl⟩ := hv
    have hlt : b < w.heap.size := (Array.getElem?_eq_some_iff.1 hb).1
    exact ⟨b, ents, rfl, (h.block b hlt hO).1, (h.block b hlt hO).2.trans hb, hk, hbs, VL.mono h.iota0 _ _ hl⟩
  | .asl .., x, hv => by
    simp only [V] at hv ⊢
    obtain ⟨L, c, hL, r⟩ := hv
    exact ⟨L, c, h.iota _ _ _ hL, r⟩
theorem VL.mono {ι ι' : Iota} (h : Ext w O ι w' O' ι') : ∀ (l : List PV) (xs : List Value), VL w O ι l xs → VL w' O' ι' l xs
  | [], _, hv => by simp only [VL] at hv ⊢; exact hv
  | p :: ps, xs, hv => by
    simp only [VL] at hv ⊢
    obtain ⟨y, ys, rfl, hy, hys⟩ := hv
    exact ⟨y, ys, rfl, V.mono h p y hy, VL.mono h ps ys hys⟩
theorem VE.mono {ι ι' : Iota} {s b : Nat} (h : Ext w O ι w' O' ι') (hb : w'.heap[b]? = w.heap[b]?) : ∀ (l : List PV) (o : Nat), VE w O ι s b o l → VE w' O' ι' s b o l
  | [], _, hv => by simp only [VE]
  | p :: ps, o, hv => by
    simp only [VE] at hv ⊢
    obtain ⟨⟨y, hy, hs, hc⟩, hps⟩ := hv
    exact ⟨⟨y, V.mono h p y hy, hs, hc.of_block hb⟩, VE.mono h hb ps _ hps⟩
end
end
end Go.Proofs.YthabndifdgafbaaGreatDoor.RV
end
section
set_option linter.constructorNameAsVariable false
namespace Go.Proofs.YthabndifdgafbaaGreatDoor.RV
def pureRun {α : Type} (P : Program) : Sem α → Option α
  | .pure a => some a
  | .program k => pureRun P (k P)
  | _ => none
def undefP : PV := .tup []
mutual
def toVal : PV → Option Value
  | .lit v => some v
  | .agg l => match toVals l with | some xs => some (.agg xs.toArray) | none => none
  | .tup l => match toVals l with | some xs => some (.tuple xs.toArray) | none => none
  | .clo f a l => match toVals a with | some ys => (match toVals l with | some xs => some (.func (.func f) ys.toArray xs.toArray) | none => none) | none => none
  | .iface t v => match toVal v with | some x => some (.iface t x) | none => none
  | _ => none
def toVals : List PV → Option (List Value)
  | [] => some []
  | p :: ps => match toVal p with
    | some x => match toVals ps with | some xs => some (x :: xs) | none => none
    | none => none
end
def ofVal1 : Value → PV
  | .agg cs => .agg (cs.toList.map .lit)
  | v => .lit v
def ofVal : Value → PV
  | .tuple vs => .tup (vs.toList.map ofVal1)
  | v => ofVal1 v
mutual
def deepB : PV → Bool
  | .lit _ | .dsl .. | .dptr .. | .dmap .. => true
  | .agg l | .tup l => deepL l
  | .clo _ a l => deepL a && deepL l
  | .iface _ v => deepB v
  | _ => false
def deepL : List PV → Bool
  | [] => true
  | p :: ps => deepB p && deepL ps
end
inductive HObj where
  | blk (s : Nat) (l : List PV) (live : Bool)
  | str (s : ByteArray) (pos : Nat)
  | mp (ks : List Value) (vs : List PV) (bs : List Nat) (clock : Nat)
  | mit (m : PV) (since : Nat) (seen : List Nat) (stepped : Nat)
def HObj.live : HObj → Bool
  | .blk _ _ b => b
  | _ => true
abbrev Heap := Tr (Nat × HObj)
def obj (H : Heap) (id ver : Nat) : Option HObj :=
  match H.get id with
  | some (v, o) => if v = ver then some o else none
  | none => none
structure Cfg where
  P : Program
  fns : FuncId → Bool
  mode : FuncId → Nat
  spec : FuncId → List PV → Option PV
  glob : Nat → Option (List PV)
  own : FuncId → Tmp → Bool
  dp : FuncId → Tmp → Bool
  bad : FuncId → Nat → Bool
  gl : Nat
  ginv : World → Prop
  gst : ∀ w w' : World, ginv w → (∀ b, b < gl → w'.heap[b]? = w.heap[b]?) → ginv w'
  quiet : FuncId → Bool := fun _ => false
abbrev Env := Tr PV
def Env.at (e : Env) (t : Tmp) : PV := match e.get t with | some p => p | none => undefP
structure St where
  env : Env
  H : Heap
  m : Nat
  sz : Nat
def evO (cfg : Cfg) (env : Env) : Operand → Option PV
  | .tmp t => some (env.at t)
  | .const v => some (ofVal v)
  | .global g => match cfg.glob g with | some l => some (.dptr l 0) | none => none
  | .func f => some (.clo f [] [])
def evOs (cfg : Cfg) (env : Env) : List Operand → Option (List PV)
  | [] => some []
  | x :: xs => match evO cfg env x with
    | some p => match evOs cfg env xs with | some ps => some (p :: ps) | none => none
    | none => none
def litOf (cfg : Cfg) (env : Env) (x : Operand) : Value :=
  match evO cfg env x with
  | some p => match toVal p with | some v => v | none => undef
  | none => undef
def litOk (cfg : Cfg) (env : Env) : List Operand → Bool
  | [] => true
  | x :: xs => match evO cfg env x with
    | some p => match toVal p with | some _ => litOk cfg env xs | none => false
    | none => false
def isSel : Op → Bool
  | .select .. => true
  | _ => false
def litRun (cfg : Cfg) (env : Env) (o : Oper) : Option PV :=
  match isSel o.op with
  | true => none
  | false =>
  match litOk cfg env o.op.operands.toList with
  | true => match pureRun cfg.P (execOp (litOf cfg env) o) with
    | some (.value v) => some (ofVal v)
    | _ => none
  | false => none
def szO (P : Program) (t : TypeId) : Option Nat := match P.info? t with | some i => some i.size | none => none
def isAggO (P : Program) (t : TypeId) : Option Bool :=
  match P.underlying t with
  | some (.struct _) | some (.array _ _) => some true
  | some _ => some false
  | none => none
def zeroO (P : Program) (t : TypeId) : Option PV := match P.info? t with | some i => (match i.zero with | some v => (match v with | .tuple _ => none | v => some (ofVal1 v)) | none => none) | none => none
def splice (l : List PV) (off : Nat) (xs : List PV) : List PV := l.take off ++ (xs ++ l.drop (off + xs.length))
def partO (P : Program) (t : TypeId) (cells : List PV) (off : Nat) : Option PV :=
  match isAggO P t, szO P t with
  | some true, some n => if off + n ≤ cells.length then some (.agg ((cells.drop off).take n)) else none
  | some false, some _ => cells[off]?
  | _, _ => none
def scalars : List PV → Bool
  | [] => true
  | p :: ps => p.scalar && scalars ps
def fillA (place : Nat → Option (Nat × Nat)) : List PV → List (Nat × PV) → Option (List PV)
  | cells, [] => some cells
  | cells, (i, p) :: rest =>
    match place i with
    | none => none
    | some (off, size) =>
      if p.cells.length = size ∧ off + size ≤ cells.length then fillA place (splice cells off p.cells) rest else none
def evParts (cfg : Cfg) (env : Env) : List (Nat × Operand) → Option (List (Nat × PV))
  | [] => some []
  | (i, x) :: xs => match evO cfg env x with
    | some p => match evParts cfg env xs with | some ps => some ((i, p) :: ps) | none => none
    | none => none
def sizesOk (P : Program) : List Field → Bool
  | [] => true
  | f :: fs => match szO P f.type with | some _ => sizesOk P fs | none => false
def placeS (P : Program) (fields : Array Field) (i : Nat) : Option (Nat × Nat) :=
  match fields[i]? with
  | some f => match szO P f.type with | some n => some (f.offset, n) | none => none
  | none => none
def buildA (cfg : Cfg) (env : Env) (t : TypeId) (parts : List (Nat × Operand)) : Option PV :=
  match zeroO cfg.P t, cfg.P.underlying t, evParts cfg env parts with
  | some z, some (.struct fields), some ps =>
    match sizesOk cfg.P fields.toList with
    | true =>
      (fillA (placeS cfg.P fields) z.cells ps).map .agg
    | false => none
  | some z, some (.array _ elem), some ps =>
    match szO cfg.P elem with
    | some size => (fillA (fun i => some (i * size, size)) z.cells ps).map .agg
    | none => none
  | _, _, _ => none
def partsInOrder (n : Nat) (ps : List (Nat × PV)) : Option (List PV) :=
  if ps.map (·.1) = List.range n then some (ps.map (·.2)) else none
def sizesAre (s : Nat) : List PV → Bool
  | [] => true
  | p :: ps => decide (p.cells.length = s) && sizesAre s ps
def buildSliceA (cfg : Cfg) (env : Env) (t : TypeId) (len : Nat) (parts : List (Nat × Operand)) : Option (Nat × List PV) :=
  match cfg.P.underlying t with
  | some (.slice elem) =>
    match szO cfg.P elem, zeroO cfg.P elem, evParts cfg env parts with
    | some s, some z, some ps =>
      match partsInOrder len ps with
      | some l => if sizesAre s l ∧ z.cells.length = s ∧ 0 < s ∧ len * s ≤ 2 ^ 20 then some (s, l) else none
      | none => none
    | _, _, _ => none
  | _ => none
def natLit (x : Option PV) : Option Nat :=
  match x with
  | some (.lit (.int _ (.ofNat n))) => some n
  | _ => none
def makeSliceA (cfg : Cfg) (env : Env) (t : TypeId) (len cap : Operand) : Option (Nat × List PV) :=
  match cfg.P.underlying t with
  | some (.slice elem) =>
    match szO cfg.P elem, zeroO cfg.P elem, natLit (evO cfg env len), natLit (evO cfg env cap) with
    | some s, some z, some n, some c =>
      match cfg.P.info? elem with
      | some i => if n = c ∧ z.cells.length = s ∧ 0 < s ∧ i.bytes * n ≤ 2 ^ 40 ∧ n ≤ 2 ^ 40 then some (s, List.replicate n z) else none
      | none => none
    | _, _, _, _ => none
  | _ => none
def fieldA (cfg : Cfg) (env : Env) (t : TypeId) (x : Operand) (i : Nat) : Option PV :=
  match cfg.P.underlying t, evO cfg env x with
  | some (.struct fields), some (.agg l) => match fields[i]? with
    | some f => partO cfg.P f.type l f.offset
    | none => none
  | _, _ => none
def fieldAddrA (cfg : Cfg) (env : Env) (t : TypeId) (x : Operand) (i : Nat) : Option PV :=
  match cfg.P.underlying t with
  | some (.struct fields) => match fields[i]? with
    | some f => match szO cfg.P f.type with
      | some 0 | none => none
      | some _ => match evO cfg env x with
        | some (.ptr id ver idx off) => some (.ptr id ver idx (off + f.offset))
        | some (.dptr l off) => some (.dptr l (off + f.offset))
        | _ => none
    | none => none
  | _ => none
def indexAddrA (cfg : Cfg) (env : Env) (t : TypeId) (x ix : Operand) : Option PV :=
  match natLit (evO cfg env ix) with
  | none => none
  | some i =>
    match cfg.P.underlying t with
    | some (.slice elem) =>
      match szO cfg.P elem with
      | some sz => match evO cfg env x with
        | some (.own id ver s off len _) => if i < len ∧ s = sz then some (.ptr id ver (off + i) 0) else none
        | some (.dsl s l _) => if s = sz then (match l[i]? with | some p => some (.dptr p.cells 0) | none => none) else none
        | _ => none
      | none => none
    | some (.array n elem) =>
      match szO cfg.P elem with
      | some sz => if i < n then (match evO cfg env x with
        | some (.ptr id ver idx off) => some (.ptr id ver idx (off + i * sz))
        | some (.dptr l off) => some (.dptr l (off + i * sz))
        | _ => none) else none
      | none => none
    | _ => none
def optNat (cfg : Cfg) (env : Env) : Option Operand → Option (Option Nat)
  | none => some none
  | some x => match natLit (evO cfg env x) with | some n => some (some n) | none => none
def sliceA (cfg : Cfg) (env : Env) (t : TypeId) (x : Operand) (lo hi mx : Option Operand) : Option PV :=
  match evO cfg env x, optNat cfg env lo, optNat cfg env hi, optNat cfg env mx with
  | some (.own id ver s off len cap), some lo, some hi, some mx =>
    match cfg.P.underlying t with
    | some (.slice elem) =>
      let l := lo.getD 0
      let h := hi.getD len
      if szO cfg.P elem = some s ∧ l ≤ h ∧ h ≤ len then
        match mx with
        | some m => if hi.isSome ∧ h ≤ m ∧ m ≤ len then (if m = l then some (.own id ver s off 0 (some 0)) else some (.own id ver s (off + l) (h - l) (some (m - l)))) else none
        | none => if l = 0 then some (.own id ver s off h cap) else if l < h then some (.own id ver s (off + l) (h - l) (cap.map (· - l))) else some (.dsl s [] none)
      else none
    | _ => none
  | some (.dsl s l0 _), some lo, some hi, some mx =>
    match cfg.P.underlying t with
    | some (.slice elem) =>
      let l := lo.getD 0
      let h := hi.getD l0.length
      if szO cfg.P elem = some s ∧ l ≤ h ∧ h ≤ l0.length then
        match mx with
        | some m => if hi.isSome ∧ h ≤ m ∧ m ≤ l0.length then some (.dsl s ((l0.drop l).take (h - l)) (some (m - l))) else none
        | none => some (.dsl s ((l0.drop l).take (h - l)) none)
      else none
    | _ => none
  | some (.ptr id ver idx off), some lo, some hi, some none =>
    match cfg.P.underlying t with
    | some (.array n elem) =>
      let l := lo.getD 0
      let h := hi.getD n
      if szO cfg.P elem = some 1 ∧ l ≤ h ∧ h ≤ n ∧ l < n then some (.asl id ver idx (off + l) (h - l)) else none
    | _ => none
  | _, _, _, _ => none
def byteP (b : UInt8) : PV := .lit (.int .u8 b.toNat)
def bytesP (s : ByteArray) : List PV := s.data.toList.map byteP
def bytesOf : List PV → Option (List UInt8)
  | [] => some []
  | p :: ps => match p with
    | .lit (.int .u8 n) => match bytesOf ps with | some bs => some (UInt8.ofNat n.toNat :: bs) | none => none
    | _ => none
mutual
def deepen (H : Heap) : Nat → PV → Option PV
  | 0, _ => none
  | k + 1, p => match p with
    | .lit v => some (.lit v)
    | .dsl s l c => some (.dsl s l c)
    | .dptr l o => some (.dptr l o)
    | .agg l => match deepenL H k l with | some l => some (.agg l) | none => none
    | .tup l => match deepenL H k l with | some l => some (.tup l) | none => none
    | .clo f a l => match deepenL H k a with | some a => (match deepenL H k l with | some l => some (.clo f a l) | none => none) | none => none
    | .iface t v => match deepen H k v with | some v => some (.iface t v) | none => none
    | .own id ver s off len cap => match obj H id ver with
      | some (.blk s' l _) => if s = s' ∧ off + len ≤ l.length then (match deepenL H k ((l.drop off).take len) with | some l => some (.dsl s l cap) | none => none) else none
      | _ => none
    | .ptr id ver idx off => match obj H id ver with
      | some (.blk _ l _) => match l[idx]? with
        | some e => match deepenL H k e.cells with | some l => some (.dptr l off) | none => none
        | none => none
      | _ => none
    | .map id ver => match obj H id ver with
      | some (.mp ks vs bs clock) => match deepenL H k vs with | some vs => some (.dmap ks vs bs clock) | none => none
      | _ => none
    | .dmap ks vs bs clock => some (.dmap ks vs bs clock)
    | _ => none
def deepenL (H : Heap) : Nat → List PV → Option (List PV)
  | 0, l => match l with | [] => some [] | _ => none
  | k + 1, l => match l with
    | [] => some []
    | p :: ps => match deepen H k p with
      | some p => match deepenL H k ps with | some ps => some (p :: ps) | none => none
      | none => none
end
inductive Cls where
  | pure | new | read | write | wild
  deriving DecidableEq
def isSliceT (P : Program) (t : TypeId) : Bool := match P.underlying t with | some (.slice _) => true | _ => false
def isMapT (P : Program) (t : TypeId) : Bool := match P.underlying t with | some (.map _ _) => true | _ => false
def ownDst (cfg : Cfg) (cur : FuncId) (o : Oper) : Bool := match o.dst with | some d => cfg.own cur d | none => false
def cls (cfg : Cfg) (cur : FuncId) (o : Oper) : Cls :=
  match o.op with
  | .load _ x => match x with
    | .tmp t => if cfg.dp cur t then .pure else .read
    | .global _ => .pure
    | _ => .read
  | .store .. => .write
  | .alloc _ => .new
  | .box .. | .buildSlice .. | .makeSlice .. => if ownDst cfg cur o then .new else .pure
  | .makeMap .. => .new
  | .range t _ => if isMapT cfg.P t then .write else .new
  | .next .. | .mapUpdate .. | .mapEntry .. | .entryStore .. | .insert .. => .write
  | .lookup .. | .entry _ => .read
  | .convert src dst _ => if isSliceT cfg.P src then (if isSliceT cfg.P dst then .write else .read) else if isSliceT cfg.P dst && ownDst cfg cur o then .new else .pure
  | .call c => match c.callee with
    | .builtin b => match b with
      | .append | .copy | .clear | .delete => .write
      | .len => match (c.argTypes[0]? : Option TypeId) with
        | some t => if isMapT cfg.P t then .read else .pure
        | none => .pure
      | _ => .pure
    | .value f => match f with
      | .func g => match cfg.mode g with
        | 0 | 3 => .pure
        | 1 | 4 => .read
        | 5 => .new
        | _ => .wild
      | _ => .wild
    | .invoke .. => .wild
  | .go _ | .panic _ | .send .. | .recv .. | .select .. | .ready _ | .waits _ => .wild
  | _ => .pure
def notNil : PV → Bool
  | .own .. | .dsl _ (_ :: _) _ => true
  | _ => false
def isNilS : PV → Bool
  | .lit (.slice none _ _) => true
  | _ => false
def nilCmp (cfg : Cfg) (env : Env) (op : BinOp) (t : TypeId) (x y : Operand) : Option PV :=
  match isSliceT cfg.P t, evO cfg env x, evO cfg env y with
  | true, some p, some q => if (notNil p && isNilS q) || (isNilS p && notNil q) then (match op with | .eql => some (.lit (.bool false)) | .neq => some (.lit (.bool true)) | _ => none) else none
  | _, _, _ => none
def quietA (cfg : Cfg) (env : Env) (c : Call) : Option PV :=
  match c.callee, c.args.toList with
  | .value f, [] => match evO cfg env f with
    | some (.clo g _ _) => if cfg.quiet g then some undefP else none
    | _ => none
  | _, _ => none
def aopPure (cfg : Cfg) (env : Env) (o : Oper) : Option PV :=
  match o.op with
  | .defer c => quietA cfg env c
  | .move x | .assign x => evO cfg env x
  | .pick c a b => match evO cfg env c with
    | some (.lit (.bool t)) => (match evO cfg env a, evO cfg env b with | some p, some q => some (match t with | true => p | false => q) | _, _ => none)
    | _ => none
  | .box _ x => match evO cfg env x with
    | some p => if deepB p then some (.dptr p.cells 0) else none
    | none => none
  | .build t parts => buildA cfg env t parts.toList
  | .buildSlice t len parts => match buildSliceA cfg env t len parts.toList with
    | some (s, l) => if deepL l then some (.dsl s l (some len)) else none
    | none => none
  | .makeSlice t l c => match makeSliceA cfg env t l c with
    | some (s, l) => some (.dsl s l (some l.length))
    | none => none
  | .field t x i => match fieldA cfg env t x i with
    | some p => some p
    | none => none
  | .extract t i => match evO cfg env t with
    | some (.tup l) => l[i]?
    | _ => none
  | .fieldAddr t x i => fieldAddrA cfg env t x i
  | .indexAddr t x i => indexAddrA cfg env t x i
  | .slice t x lo hi mx => match sliceA cfg env t x lo hi mx with
    | some p => some p
    | none => litRun cfg env o
  | .makeFunc fn first captured => match fn, evOs cfg env first.toList, evOs cfg env captured.toList with
    | .func f, some a, some l => some (.clo f a l)
    | _, _, _ => none
  | .nilCheck x => match evO cfg env x with
    | some (.ptr id ver idx off) => some (.ptr id ver idx off)
    | some (.dptr l off) => some (.dptr l off)
    | some (.clo f a l) => some (.clo f a l)
    | _ => none
  | .convert src dst x => if isSliceT cfg.P dst then (match cfg.P.underlying src, cfg.P.underlying dst, evO cfg env x with
      | some .string, some (.slice e), some (.lit (.string s)) => (match cfg.P.underlying e with | some (.int .u8) => some (.dsl 1 (bytesP s) none) | _ => none)
      | _, _, _ => none) else litRun cfg env o
  | .binOp op t x y _ => match litRun cfg env o with
    | some p => some p
    | none => nilCmp cfg env op t x y
  | .call c => match c.callee with
    | .builtin .len => match c.args.toList with
      | [x] => match evO cfg env x, c.argTypes[0]? with
        | some (.own _ _ _ _ len _), some t => if isSliceT cfg.P t then some (.lit (.int .i64 len)) else none
        | some (.dsl _ l _), some t => if isSliceT cfg.P t then some (.lit (.int .i64 l.length)) else none
        | some _, _ => litRun cfg env o
        | none, _ => none
      | _ => none
    | .builtin .cap => match c.args.toList with
      | [x] => match evO cfg env x, c.argTypes[0]? with
        | some (.own _ _ _ _ _ (some k)), some t => if isSliceT cfg.P t then some (.lit (.int .i64 k)) else none
        | some (.dsl _ _ (some k)), some t => if isSliceT cfg.P t then some (.lit (.int .i64 k)) else none
        | some _, _ => litRun cfg env o
        | none, _ => none
      | _ => none
    | .builtin .min | .builtin .max => litRun cfg env o
    | _ => none
  | .load t x => match evO cfg env x with
    | some (.dptr l off) => partO cfg.P t l off
    | _ => none
  | .alloc _ | .store .. => none
  | _ => litRun cfg env o
def aopNew (cfg : Cfg) (env : Env) (o : Oper) (id : Nat) : Option (PV × HObj) :=
  match o.op with
  | .alloc t => match zeroO cfg.P t with
    | some z => some (.ptr id 0 0 0, .blk z.cells.length [z] true)
    | none => none
  | .box _ x => match evO cfg env x with
    | some p => some (.ptr id 0 0 0, .blk p.cells.length [p] true)
    | none => none
  | .buildSlice t len parts => match buildSliceA cfg env t len parts.toList with
    | some (s, l) => some (.own id 0 s 0 len (some len), .blk s l true)
    | none => none
  | .makeSlice t l c => match makeSliceA cfg env t l c with
    | some (s, l) => some (.own id 0 s 0 l.length (some l.length), .blk s l true)
    | none => none
  | .makeMap t r => if isMapT cfg.P t then (match r with
    | none => some (.map id 0, .mp [] [] [] 0)
    | some x => match evO cfg env x with | some (.lit (.int _ _)) => some (.map id 0, .mp [] [] [] 0) | _ => none) else none
  | .range t x => match cfg.P.underlying t, evO cfg env x with
    | some .string, some (.lit (.string s)) => some (.iter id 0, .str s 0)
    | _, _ => none
  | _ => none
def loadA (P : Program) (H : Heap) (t : TypeId) : PV → Option PV
  | .ptr id ver idx off => match obj H id ver with
    | some (.blk _ l _) => match l[idx]? with
      | some e => partO P t e.cells off
      | none => none
    | _ => none
  | .dptr l off => partO P t l off
  | _ => none
abbrev Delta := List (Nat × Nat × HObj)
def entsOf (ks : List Value) (bs : List Nat) : List MapEntry := List.zipWith (fun k b => ⟨k, undef, b⟩) ks bs
def findE (P : Program) (kt : TypeId) (k : Value) (ks : List Value) (bs : List Nat) : Option (Option Nat) :=
  match pureRun P (Instr.findKey kt k (entsOf ks bs)) with
  | some (some (i, _)) => some (some i)
  | some none => some none
  | none => none
def keyOk (P : Program) (empty : Bool) (kt : TypeId) (k : Value) : Bool :=
  match pureRun P (Instr.checkKey empty 10000 kt k) with
  | some _ => true
  | none => false
def mapOf (H : Heap) : PV → Option (List Value × List PV × List Nat × Nat)
  | .lit (.map none) => some ([], [], [], 0)
  | .map id ver => match obj H id ver with
    | some (.mp ks vs bs clock) => some (ks, vs, bs, clock)
    | _ => none
  | .dmap ks vs bs clock => some (ks, vs, bs, clock)
  | _ => none
def lookupA (P : Program) (H : Heap) (t : TypeId) (m : PV) (k : Value) : Option (PV × Bool) :=
  match P.underlying t with
  | some (.map kt vt) =>
    match mapOf H m with
    | some (ks, vs, bs, _) => if keyOk P ks.isEmpty kt k then (match findE P kt k ks bs with
        | some (some i) => match vs[i]? with | some v => some (v, true) | none => none
        | some none => match zeroO P vt with | some z => some (z, false) | none => none
        | none => none) else none
    | none => none
  | _ => none
def updateA (P : Program) (H : Heap) (t : TypeId) (m : PV) (k : Value) (v : PV) : Option Delta :=
  match P.underlying t with
  | some (.map kt _) =>
    match m with
    | .map id ver => match obj H id ver with
      | some (.mp ks vs bs clock) => if keyOk P false kt k then (match findE P kt k ks bs with
        | some (some i) => match ks[i]? with
          | some k0 => if Instr.sameBits 10000 k0 k then some [(id, ver, .mp (ks.set i k) (vs.set i v) bs clock)] else none
          | none => none
        | some none => some [(id, ver, .mp (ks ++ [k]) (vs ++ [v]) (bs ++ [clock]) (clock + 1))]
        | none => none) else none
      | _ => none
    | _ => none
  | _ => none
def nextOf (ks : List Value) (vs : List PV) (bs : List Nat) (since : Nat) (seen : List Nat) (stepped : Nat) : Option (Option (Value × PV × Nat)) :=
  if !seen.isEmpty && !bs.isEmpty && bs.all (fun b => decide (b ≥ stepped)) then none else
  let left := (ks.zip (vs.zip bs)).filter fun e => !seen.contains e.2.2
  let old := left.filter fun e => decide (e.2.2 < since)
  let new := left.filter fun e => decide (e.2.2 ≥ since)
  match old, new with
  | [], [] => some none
  | [e], [] => some (some e)
  | _, _ => none
def aopRead (cfg : Cfg) (env : Env) (H : Heap) (o : Oper) : Option PV :=
  match o.op with
  | .load t x => match evO cfg env x with
    | some p => loadA cfg.P H t p
    | none => none
  | .convert src dst x =>
    match cfg.P.underlying src, cfg.P.underlying dst with
    | some (.slice e), some .string =>
      match cfg.P.underlying e, evO cfg env x with
      | some (.int .u8), some (.own id ver s off len _) => match obj H id ver with
        | some (.blk s' l _) => if s = s' ∧ s = 1 ∧ off + len ≤ l.length then (match bytesOf ((l.drop off).take len) with | some bs => some (.lit (.string ⟨bs.toArray⟩)) | none => none) else none
        | _ => none
      | some (.int .u8), some (.asl id ver idx off len) => match obj H id ver with
        | some (.blk _ l _) => match l[idx]? with
          | some e => if off + len ≤ e.cells.length then (match bytesOf ((e.cells.drop off).take len) with | some bs => some (.lit (.string ⟨bs.toArray⟩)) | none => none) else none
          | none => none
        | _ => none
      | some (.int .u8), some (.dsl s l _) => if s = 1 then (match bytesOf l with | some bs => some (.lit (.string ⟨bs.toArray⟩)) | none => none) else none
      | some (.int .u8), some (.lit (.slice none _ _)) => some (.lit (.string .empty))
      | _, _ => none
    | _, _ => none
  | .entry it => match evO cfg env it with
    | some (.iter id ver) => match obj H id ver with
      | some (.mit m _ seen stepped) => match seen.getLast?, mapOf H m with
        | some b, some (ks, vs, bs, clock) => if clock = stepped then (match (ks.zip (vs.zip bs)).find? (fun e => e.2.2 == b) with
          | some (k, v, _) => some (.tup [ofVal1 k, v])
          | none => none) else none
        | _, _ => none
      | _ => none
    | _ => none
  | .lookup t m k ok => match evO cfg env m, evO cfg env k with
    | some p, some q => match toVal q with
      | some k => match lookupA cfg.P H t p k with
        | some (v, b) => some (match ok with | true => .tup [v, .lit (.bool b)] | false => v)
        | none => none
      | none => none
    | _, _ => none
  | .call c => match c.callee with
    | .builtin .len => match c.args.toList, c.argTypes[0]? with
      | [x], some t => match isMapT cfg.P t, evO cfg env x with
        | true, some (.lit (.map none)) => some (.lit (.int .i64 0))
        | true, some (.dmap _ vs _ _) => some (.lit (.int .i64 vs.length))
        | true, some (.map id ver) => match obj H id ver with
          | some (.mp _ vs _ _) => some (.lit (.int .i64 vs.length))
          | _ => none
        | _, _ => none
      | _, _ => none
    | _ => none
  | _ => none
def scalarsE : List PV → Bool
  | [] => true
  | p :: ps => scalars p.cells && scalarsE ps
def elemsOf (H : Heap) (s : Nat) : PV → Option (List PV)
  | .own id ver s' off len _ => match obj H id ver with
    | some (.blk s2 l _) => if s' = s2 ∧ s' = s ∧ off + len ≤ l.length then some ((l.drop off).take len) else none
    | _ => none
  | .dsl s' l _ => if s' = s then some l else none
  | .lit (.slice none 0 _) => some []
  | .lit (.string b) => if s = 1 then some (bytesP b) else none
  | _ => none
def appendA (P : Program) (H : Heap) (elem : TypeId) (fresh : Nat) (d x : PV) : Option (PV × Delta) :=
  match P.info? elem, zeroO P elem with
  | some i, some z =>
    match elemsOf H i.size x with
    | some xs =>
      if z.cells.length = i.size ∧ 0 < i.size ∧ sizesAre i.size xs ∧ scalarsE xs then
      match d with
      | .lit (.slice none 0 0) => match xs with
        | [] => some (.lit (.slice none 0 0), [])
        | _ => if xs.length * i.bytes ≤ 2 ^ 40 ∧ xs.length ≤ 2 ^ 40 then some (.own fresh 0 i.size 0 xs.length none, [(fresh, 0, .blk i.size xs true)]) else none
      | .own id ver s off len cap => match obj H id ver with
        | some (.blk s' l live) =>
          if s = s' ∧ s = i.size ∧ off + len ≤ l.length ∧ (len + xs.length) * i.bytes ≤ 2 ^ 40 ∧ len + xs.length ≤ 2 ^ 40 then
          match xs with
          | [] => some (.own id ver s off len cap, [])
          | _ => match cap with
            | some c =>
              if c < len + xs.length then some (.own fresh 0 s 0 (len + xs.length) none, [(fresh, 0, .blk s ((l.drop off).take len ++ xs) true)])
              else match live with
                | true => some (.own id ver s off (len + xs.length) cap, [(id, ver, .blk s (l.take (off + len) ++ (xs ++ l.drop (off + len + xs.length))) true)])
                | false => none
            | none => match live with
              | true => some (.own id (ver + 1) s 0 (len + xs.length) none, [(id, ver + 1, .blk s ((l.drop off).take len ++ xs) true)])
              | false => none
          else none
        | _ => none
      | .dsl s l cap =>
        if s = i.size ∧ (l.length + xs.length) * i.bytes ≤ 2 ^ 40 ∧ l.length + xs.length ≤ 2 ^ 40 then
        match xs with
        | [] => some (.dsl s l cap, [])
        | _ => match cap with
          | some c => if c < l.length + xs.length then some (.own fresh 0 s 0 (l.length + xs.length) none, [(fresh, 0, .blk s (l ++ xs) true)]) else none
          | none => none
        else none
      | _ => none
      else none
    | none => none
  | _, _ => none
def storeA (P : Program) (H : Heap) (t : TypeId) (p v : PV) : Option Delta :=
  match p with
  | .ptr id ver idx off => match obj H id ver, szO P t with
    | some (.blk s l true), some n => match l[idx]? with
      | some e =>
        if v.cells.length = n ∧ off + n ≤ e.cells.length ∧ scalars v.cells then
          match e with
          | .agg es => some [(id, ver, .blk s (l.set idx (.agg (splice es off v.cells))) true)]
          | _ => match v with
            | .agg _ => none
            | v => if n = 1 ∧ e.cells.length = 1 then some [(id, ver, .blk s (l.set idx v) true)] else none
        else none
      | none => none
    | _, _ => none
  | _ => none
def copyA (P : Program) (H : Heap) (elem : TypeId) (d x : PV) : Option (PV × Delta) :=
  match P.info? elem with
  | some i =>
    match elemsOf H i.size x, d with
    | some xs, .own id ver s off len _ => match obj H id ver with
      | some (.blk s' l true) =>
        if s = s' ∧ s = i.size ∧ off + len ≤ l.length ∧ sizesAre i.size xs ∧ scalarsE xs then
          let n := min xs.length len
          some (.lit (.int .i64 n), [(id, ver, .blk s (l.take off ++ (xs.take n ++ l.drop (off + n))) true)])
        else none
      | _ => none
    | some _, .lit (.slice none 0 0) => some (.lit (.int .i64 0), [])
    | some _, .dsl _ [] _ => some (.lit (.int .i64 0), [])
    | _, _ => none
  | none => none
def aopWrite (cfg : Cfg) (env : Env) (H : Heap) (o : Oper) (fresh : Nat) : Option (PV × Delta) :=
  match o.op with
  | .store t a x => match evO cfg env a, evO cfg env x with
    | some p, some v => match storeA cfg.P H t p v with | some d => some (undefP, d) | none => none
    | _, _ => none
  | .call c => match c.callee with
    | .builtin .append => match c.args.toList, c.argTypes.toList with
      | [d, x], [dt, xt] => match cfg.P.underlying dt, cfg.P.underlying xt, evO cfg env d, evO cfg env x with
        | some (.slice e), some (.slice _), some p, some q => appendA cfg.P H e fresh p q
        | some (.slice e), some .string, some p, some q => appendA cfg.P H e fresh p q
        | _, _, _, _ => none
      | _, _ => none
    | .builtin .copy => match c.args.toList, c.argTypes.toList with
      | [d, x], [dt, _] => match cfg.P.underlying dt, evO cfg env d, evO cfg env x with
        | some (.slice e), some p, some q => copyA cfg.P H e p q
        | _, _, _ => none
      | _, _ => none
    | _ => none
  | .mapUpdate t m k x | .insert t m k x => match evO cfg env m, evO cfg env k, evO cfg env x with
    | some p, some q, some v => match toVal q with
      | some k => match updateA cfg.P H t p k v with
        | some d => some (undefP, d)
        | none => none
      | none => none
    | _, _, _ => none
  | .next it isString => match isString, evO cfg env it with
    | true, some (.iter id ver) => match obj H id ver with
      | some (.str s pos) =>
        if pos < s.size then
          let r := Utf8.decode s pos
          some (.tup [.lit (.bool true), .lit (.int .i64 pos), .lit (.int .i32 r.1)], [(id, ver, .str s (pos + r.2))])
        else some (.tup [.lit (.bool false)], [])
      | _ => none
    | false, some (.iter id ver) => match obj H id ver with
      | some (.mit m since seen stepped) => match mapOf H m with
        | some (ks, vs, bs, clock) => match nextOf ks vs bs since seen stepped with
          | some none => some (.tup [.lit (.bool false)], [])
          | some (some (k, v, b)) => some (.tup [.lit (.bool true), ofVal1 k, v], [(id, ver, .mit m since (seen ++ [b]) clock)])
          | none => none
        | none => none
      | _ => none
    | _, _ => none
  | .convert src dst x => match Nat.beq src dst, cfg.P.underlying dst, evO cfg env x with
    | true, some (.slice e), some (.own id ver s off len cap) => match cfg.P.underlying e, obj H id ver with
      | some (.int .u8), some (.blk s' l true) => some (.own id ver s off len cap, [(id, ver, .blk s' l true)])
      | _, _ => none
    | _, _, _ => none
  | .range t x => match isMapT cfg.P t, evO cfg env x with
    | true, some p => match mapOf H p with
      | some (_, _, _, clock) => some (.iter fresh 0, [(fresh, 0, .mit p clock [] clock)])
      | none => none
    | _, _ => none
  | _ => none
inductive Ex where
  | normal | exit (id : Nat) | ret
  deriving DecidableEq
def applyD (H : Heap) (d : Delta) : Heap := d.foldl (fun H (id, ver, o) => H.put id (ver, o)) H
def yieldA (env : Env) (ops : Array Oper) (j : Nat) : Option Bool :=
  match ops[j]? with
  | some o => match o.dst with
    | some d => match env.at d with
      | .lit (.bool b) => some b
      | _ => none
    | none => none
  | none => none
def wantA (env : Env) (ops : Array Oper) (o : Oper) : Bool :=
  match o.guard with
  | none => true
  | some (j, want) => match yieldA env ops j with
    | some b => b == want
    | none => false
def setD (s : St) (dst : Option Tmp) (p : PV) : Option St :=
  match dst with
  | some d => if d < s.sz then some { s with env := s.env.put d p } else none
  | none => some s
def envOf : List PV → Nat → Env → Env
  | [], _, e => e
  | p :: ps, i, e => envOf ps (i + 1) (e.put i p)
def resOne (P : Program) (s : St) : ResultVar → Option PV
  | .tmp t => some (s.env.at t)
  | .cell a t => loadA P s.H t (s.env.at a)
def resAll (P : Program) (s : St) : List ResultVar → Option (List PV)
  | [] => some []
  | r :: rs => match resOne P s r with
    | some p => match resAll P s rs with | some ps => some (p :: ps) | none => none
    | none => none
def resA (P : Program) (s : St) (rs : List ResultVar) : Option PV :=
  match resAll P s rs with
  | some [p] => some p
  | some l => some (.tup l)
  | none => none
abbrev Run := FuncId → Code → St → Option (Ex × St)
def callA (cfg : Cfg) (X : Run) (f : FuncId) (args : List PV) (H : Heap) (m : Nat) : Option (PV × Heap × Nat) :=
  match cfg.fns f with
  | false => none
  | true => match cfg.P.funcs[f]? with
    | none => none
    | some fn => match fn.body with
      | none => none
      | some c =>
        if args.length ≤ fn.ntmps ∧ fn.ntmps ≤ 8000 then
          match X f c ⟨envOf args 0 .e, H, m, fn.ntmps⟩ with
          | some (.exit _, _) => none
          | some (_, s) => match resA cfg.P s fn.results.toList with
            | some p => some (p, s.H, s.m)
            | none => none
          | none => none
        else none
def fuelD : Nat := 100000
def callPure (cfg : Cfg) (X : Run) (f : FuncId) (args : List PV) : Option PV :=
  match deepL args with
  | false => none
  | true => match callA cfg X f args .e 0 with
    | some (p, H, _) => deepen H fuelD p
    | none => none
mutual
def flatB : PV → Bool
  | .lit _ => true
  | .agg l | .tup l => flatL l
  | _ => false
def flatL : List PV → Bool
  | [] => true
  | p :: ps => flatB p && flatL ps
end
def pureCall (cfg : Cfg) (X : Run) (f : FuncId) (args : List PV) : Option PV :=
  match cfg.mode f with
  | 0 => callPure cfg X f args
  | 1 => callPure cfg X f args
  | 3 => if deepL args then cfg.spec f args else none
  | 4 => if deepL args then cfg.spec f args else none
  | _ => none
def callee? : Op → Option (FuncId × List Operand)
  | .call c => match c.callee with
    | .value (.func g) => some (g, c.args.toList)
    | _ => none
  | _ => none
def importA (cfg : Cfg) (X : Run) (f : FuncId) (args : List PV) (id : Nat) : Option (PV × Option HObj) :=
  match deepL args with
  | false => none
  | true => match callA cfg X f args .e 0 with
    | some (.own i v s off len cap, H, _) => match obj H i v with
      | some (.blk s' l true) =>
        if s = s' ∧ off = 0 ∧ len = l.length ∧ deepL l then some (.own id 0 s 0 len cap, some (.blk s l true)) else none
      | _ => none
    | some (.lit (.slice none 0 0), _, _) => some (.lit (.slice none 0 0), none)
    | _ => none
def newOf (cfg : Cfg) (X : Run) (env : Env) (o : Oper) (id : Nat) : Option (PV × Option HObj) :=
  match callee? o.op with
  | some (g, xs) => match evOs cfg env xs with
    | some args => importA cfg X g args id
    | none => none
  | none => match aopNew cfg env o id with
    | some (p, ob) => some (p, some ob)
    | none => none
def effPure (cfg : Cfg) (X : Run) (env : Env) (o : Oper) : Option PV :=
  match callee? o.op with
  | some (g, xs) => match evOs cfg env xs with
    | some args => pureCall cfg X g args
    | none => none
  | none => aopPure cfg env o
def effRead (cfg : Cfg) (X : Run) (env : Env) (H : Heap) (o : Oper) : Option PV :=
  match callee? o.op with
  | some (g, xs) => match evOs cfg env xs with
    | some args => match deepenL H fuelD args with
      | some args => match pureCall cfg X g args with
        | some p => if flatB p then some p else none
        | none => none
      | none => none
    | none => none
  | none => aopRead cfg env H o
def effWrite (cfg : Cfg) (env : Env) (H : Heap) (o : Oper) (fresh : Nat) : Option (PV × Heap) :=
  match H.get fresh with
    | none => match aopWrite cfg env H o fresh with
      | some (p, d) => some (p, applyD H d)
      | none => none
    | some _ => none
def effWild (cfg : Cfg) (X : Run) (env : Env) (H : Heap) (m : Nat) (o : Oper) : Option (PV × Heap × Nat) :=
  match o.op with
  | .call c => match c.callee with
    | .value f => match evO cfg env f, evOs cfg env c.args.toList with
      | some (.clo g first caps), some args => match cfg.mode g with
        | 2 => callA cfg X g (first ++ (args ++ caps)) H m
        | _ => match pureCall cfg X g (first ++ (args ++ caps)) with
          | some p => some (p, H, m)
          | none => none
      | _, _ => none
    | _ => none
  | _ => none
def effA (cfg : Cfg) (X : Run) (cur : FuncId) (ops : Array Oper) (base i : Nat) (o : Oper) (env : Env) (H : Heap) (m : Nat) : Option (PV × Heap × Nat) :=
  match wantA env ops o with
  | false => some (undefP, H, m)
  | true => match cls cfg cur o with
    | .pure => match effPure cfg X env o with
      | some p => some (p, H, m)
      | none => none
    | .new => match newOf cfg X env o (base + i) with
      | some (p, some ob) => match H.get (base + i) with
        | none => some (p, H.put (base + i) (0, ob), m)
        | some _ => none
      | some (p, none) => some (p, H, m)
      | none => none
    | .read => match effRead cfg X env H o with
      | some p => some (p, H, m)
      | none => none
    | .write => match effWrite cfg env H o (base + i) with
      | some (p, H') => some (p, H', m)
      | none => none
    | .wild => effWild cfg X env H m o
def stepA (cfg : Cfg) (X : Run) (cur : FuncId) (ops : Array Oper) (base i : Nat) (o : Oper) (s : St) : Option St :=
  match effA cfg X cur ops base i o s.env s.H s.m with
  | some (p, H, m) => setD { s with H := H, m := m } o.dst p
  | none => none
def runOps (cfg : Cfg) (X : Run) (cur : FuncId) (ops : Array Oper) (base : Nat) : List Oper → Nat → St → Option St
  | [], _, s => some s
  | o :: os, i, s => match stepA cfg X cur ops base i o s with
    | some s' => runOps cfg X cur ops base os (i + 1) s'
    | none => none
def condA (cfg : Cfg) (s : St) (c : Operand) : Option Bool :=
  match evO cfg s.env c with
  | some (.lit (.bool b)) => some b
  | _ => none
inductive Kin where
  | pure | new | read | call | write | wild
  deriving DecidableEq
def kin (cfg : Cfg) (cur : FuncId) (o : Oper) : Kin :=
  match cls cfg cur o with
  | .pure => .pure
  | .new => .new
  | .read => match callee? o.op with | some _ => .call | none => .read
  | .write => .write
  | .wild => .wild
def kinOK : Kin → Kin → Bool
  | .pure, _ | _, .pure => true
  | .new, .new => true
  | .read, .new | .write, .new => true
  | .read, .read | .read, .call | .call, .read | .call, .call => true
  | _, _ => false
def indep (cfg : Cfg) (cur : FuncId) (ops : Array Oper) (x y : Oper) : Bool := x.apart ops y && kinOK (kin cfg cur x) (kin cfg cur y)
def maskOf (o : Oper) (acc : List Nat) : Nat :=
  o.after.toList.foldl (fun m e => if Region.binds .any e then m ||| (2 ^ e.on ||| (acc[e.on]?).getD 0) else m) 0
def masks : List Oper → List Nat → List Nat
  | [], acc => acc
  | o :: os, acc => masks os (acc ++ [maskOf o acc])
abbrev Pairs := Nat → Oper → Nat → Oper → Bool
def pairsOK (pr : Pairs) (ms : List Nat) (i : Nat) (o : Oper) : List Oper → Nat → Bool
  | [], _ => true
  | x :: xs, j => (decide (i ≤ j) || (((ms[i]?).getD 0).testBit j || pr j x i o)) && pairsOK pr ms i o xs (j + 1)
def edgesOK (i : Nat) (o : Oper) : Bool := o.after.toList.all fun e => !Region.binds .any e || decide (e.on < i)
def allOK (pr : Pairs) (ops : List Oper) (ms : List Nat) : List Oper → Nat → Bool
  | [], _ => true
  | o :: os, i => edgesOK i o && (pairsOK pr ms i o ops 0 && allOK pr ops ms os (i + 1))
def drawOK (cfg : Cfg) (cur : FuncId) (ops : Array Oper) : Bool := allOK (fun _ x _ o => indep cfg cur ops x o) ops.toList (masks ops.toList []) ops.toList 0
def noLater (l : List Oper) (j : Nat) (a : Tmp) : Bool := (l.drop j).all fun o => match o.dst with | some d => !Nat.beq d a | none => true
def ptrsApart : PV → PV → Bool
  | .ptr id _ _ _, .ptr id' _ _ _ => !Nat.beq id id'
  | .dptr _ _, .ptr _ _ _ _ => true
  | _, _ => false
def dynP (ops : Array Oper) (E : Env) : Pairs := fun j x i o =>
  x.apart ops o && (match x.guard, o.guard, x.op, o.op with
    | none, none, .load _ (.tmp a), .store _ (.tmp b) _ => noLater ops.toList j a && (noLater ops.toList i b && ptrsApart (E.at a) (E.at b))
    | _, _, _, _ => false)
def drawD (cfg : Cfg) (cur : FuncId) (ops : Array Oper) (E : Env) : Bool := allOK (fun j x i o => indep cfg cur ops x o || dynP ops E j x i o) ops.toList (masks ops.toList []) ops.toList 0
def exec (cfg : Cfg) : Nat → FuncId → Code → St → Option (Ex × St)
  | 0, _, _, _ => none
  | k + 1, cur, c, s => match c with
    | .skip | .label _ => some (.normal, s)
    | .region id ops d => match runOps cfg (exec cfg k) cur ops s.m ops.toList 0 { s with m := s.m + ops.size } with
      | some s' => match d && cfg.bad cur id with
        | true => (match drawD cfg cur ops s'.env with | true => some (.normal, s') | false => none)
        | false => some (.normal, s')
      | none => none
    | .seq a b => match exec cfg k cur a s with
      | some (.normal, s') => exec cfg k cur b s'
      | r => r
    | .cond c a b => match condA cfg s c with
      | some true => exec cfg k cur a s
      | some false => exec cfg k cur b s
      | none => none
    | .block id b => match exec cfg k cur b s with
      | some (.exit id', s') => if id' = id then some (.normal, s') else some (.exit id', s')
      | r => r
    | .loop b => match exec cfg k cur b s with
      | some (.normal, s') => exec cfg k cur (.loop b) s'
      | r => r
    | .scope b => exec cfg k cur b s
    | .exit id => some (.exit id, s)
    | .ret => some (.ret, s)
    | _ => none
end Go.Proofs.YthabndifdgafbaaGreatDoor.RV
end
section
set_option linter.constructorNameAsVariable false
namespace Go.Proofs.YthabndifdgafbaaGreatDoor.RV
open Go.RowKit (Below)
section
variable {w w' : World} {O O' : Nat → Prop} {ι ι' : Iota}
theorem Ext.refl : Ext w O ι w O ι := ⟨fun _ _ h => ⟨h, rfl⟩, fun _ _ _ h => h⟩
theorem V.lift {p : PV} {x : Value} (h : V w O iota0 p x) : V w O ι p x := V.mono (Ext.refl (ι := ι)).up p x h
theorem VL.lift {l : List PV} {xs : List Value} (h : VL w O iota0 l xs) : VL w O ι l xs := VL.mono (Ext.refl (ι := ι)).up l xs h
theorem V.anti {p : PV} {x : Value} (h : V w O ι p x) (hO : ∀ b, O' b → O b) : V w O' ι p x := V.mono ⟨fun b _ hb => ⟨fun h' => hb (hO b h'), rfl⟩, fun _ _ _ h => h⟩ p x h
theorem VL.nil_iff {xs : List Value} : VL w O ι [] xs ↔ xs = [] := by simp only [VL]
theorem VL.cons_iff {p : PV} {ps : List PV} {xs : List Value} : VL w O ι (p :: ps) xs ↔ ∃ y ys, xs = y :: ys ∧ V w O ι p y ∧ VL w O ι ps ys := by simp only [VL]
theorem VL.cons {p : PV} {ps : List PV} {y : Value} {ys : List Value} (h : V w O ι p y) (hs : VL w O ι ps ys) : VL w O ι (p :: ps) (y :: ys) := VL.cons_iff.2 ⟨y, ys, rfl, h, hs⟩
theorem VL.length : ∀ {l : List PV} {xs : List Value}, VL w O ι l xs → xs.length = l.length
  | [], _, h => by rw [VL.nil_iff] at h; subst h; rfl
  | _ :: _, _, h => by
    obtain ⟨y, ys, rfl, _, hs⟩ := VL.cons_iff.1 h
    simp [VL.length hs]
theorem VL.get : ∀ {l : List PV} {xs : List Value}, VL w O ι l xs → ∀ (i : Nat) (p : PV), l[i]? = some p → ∃ x, xs[i]? = some x ∧ V w O ι p x
  | [], _, _, i, p, hp => by simp at hp
  | q :: l, _, h, i, p, hp => by
    obtain ⟨y, ys, rfl, hy, hs⟩ := VL.cons_iff.1 h
    cases i with
    | zero => simp at hp; subst hp; exact ⟨y, by simp, hy⟩
    | succ i => simpa using VL.get hs i p (by simpa using hp)
theorem VL.take : ∀ {l : List PV} {xs : List Value}, VL w O ι l xs → ∀ n, VL w O ι (l.take n) (xs.take n)
  | [], _, h, n => by rw [VL.nil_iff] at h; subst h; simp [VL.nil_iff]
  | q :: l, _, h, n => by
    obtain ⟨y, ys, rfl, hy, hs⟩ := VL.cons_iff.1 h
    cases n with
    | zero => simp [VL.nil_iff]
    | succ n => simpa using VL.cons hy (VL.take hs n)
theorem VL.drop : ∀ {l : List PV} {xs : List Value}, VL w O ι l xs → ∀ n, VL w O ι (l.drop n) (xs.drop n)
  | [], _, h, n => by rw [VL.nil_iff] at h; subst h; simp [VL.nil_iff]
  | q :: l, _, h, n => by
    obtain ⟨y, ys, rfl, hy, hs⟩ := VL.cons_iff.1 h
    cases n with
    | zero => simpa using VL.cons hy hs
    | succ n => simpa using VL.drop hs n
theorem VL.append : ∀ {l : List PV} {xs : List Value} {l' : List PV} {xs' : List Value}, VL w O ι l xs → VL w O ι l' xs' → VL w O ι (l ++ l') (xs ++ xs')
  | [], _, _, _, h, h' => by rw [VL.nil_iff] at h; subst h; simpa using h'
  | q :: l, _, _, _, h, h' => by
    obtain ⟨y, ys, rfl, hy, hs⟩ := VL.cons_iff.1 h
    simpa using VL.cons hy (VL.append hs h')
theorem VL.lits : ∀ (xs : List Value), VL w O ι (xs.map .lit) xs
  | [] => by simp [VL.nil_iff]
  | x :: xs => by simpa using VL.cons (by simp only [V]) (VL.lits xs)
theorem V.lit_iff {v x : Value} : V w O ι (.lit v) x ↔ x = v := by simp only [V]
theorem V.agg_iff {l : List PV} {x : Value} : V w O ι (.agg l) x ↔ ∃ xs, x = .agg xs ∧ VL w O ι l xs.toList := by simp only [V]
theorem V.tup_iff {l : List PV} {x : Value} : V w O ι (.tup l) x ↔ ∃ xs, x = .tuple xs ∧ VL w O ι l xs.toList := by simp only [V]
theorem V.cells {p : PV} {x : Value} (h : V w O ι p x) : VL w O ι p.cells x.cells.toList := by
  cases p with
  | agg l => obtain ⟨xs, rfl, hl⟩ := V.agg_iff.1 h; simpa [PV.cells, Value.cells] using hl
  | lit v =>
    obtain rfl := V.lit_iff.1 h
    cases x <;> simp only [PV.cells, Value.cells] <;> first | exact VL.lits _ | exact VL.cons (V.lit_iff.2 rfl) (VL.nil_iff.2 rfl)
  | _ =>
    have h' := h
    simp only [V] at h'
    simp only [PV.cells]
    have hx : ∀ xs, x ≠ .agg xs := by rintro xs rfl; simp at h'
    have : x.cells.toList = [x] := by cases x <;> first | rfl | exact absurd rfl (hx _)
    rw [this]
    exact VL.cons h (VL.nil_iff.2 rfl)
mutual
theorem toVal_sound : ∀ (p : PV) {x v : Value}, V w O ι p x → toVal p = some v → x = v
  | .lit _, x, v, h, hv => by simp only [toVal, Option.some.injEq] at hv; rw [V.lit_iff] at h; rw [h, hv]
  | .agg l, x, v, h, hv => by
    obtain ⟨xs, rfl, hl⟩ := V.agg_iff.1 h
    simp only [toVal] at hv
    split at hv <;> cases hv
    rename_i ys hys
    rw [← toVals_sound l hl hys]
  | .tup l, x, v, h, hv => by
    obtain ⟨xs, rfl, hl⟩ := V.tup_iff.1 h
    simp only [toVal] at hv
    split at hv <;> cases hv
    rename_i ys hys
    rw [← toVals_sound l hl hys]
  | .clo f a l, x, v, h, hv => by
    simp only [V] at h
    obtain ⟨ys, xs, rfl, ha, hl⟩ := h
    simp only [toVal] at hv
    split at hv <;> try cases hv
    rename_i zs hzs
    split at hv <;> cases hv
    rename_i us hus
    rw [← toVals_sound l hl hus, ← toVals_sound a ha hzs]
  | .iface t q, x, v, h, hv => by
    simp only [V] at h
    obtain ⟨y, rfl, hy⟩ := h
    simp only [toVal] at hv
    split at hv <;> cases hv
    rename_i z hz
    rw [toVal_sound q hy hz]
  | .own .., _, _, _, hv => by simp [toVal] at hv
  | .ptr .., _, _, _, hv => by simp [toVal] at hv
  | .dsl .., _, _, _, hv => by simp [toVal] at hv
  | .dptr .., _, _, _, hv => by simp [toVal] at hv
  | .map .., _, _, _, hv => by simp [toVal] at hv
  | .iter .., _, _, _, hv => by simp [toVal] at hv
  | .dmap .., _, _, _, hv => by simp [toVal] at hv
  | .asl .., _, _, _, hv => by simp [toVal] at hv
theorem toVals_sound : ∀ (l : List PV) {xs vs : List Value}, VL w O ι l xs → toVals l = some vs → xs = vs
  | [], _, _, h, hv => by simp only [toVals, Option.some.injEq] at hv; rw [VL.nil_iff] at h; rw [h, hv]
  | p :: ps, xs, vs, h, hv => by
    obtain ⟨y, ys, rfl, hy, hs⟩ := VL.cons_iff.1 h
    simp only [toVals] at hv
    split at hv <;> try cases hv
    rename_i z hz
    split at hv <;> cases hv
    rename_i zs hzs
    rw [toVal_sound p hy hz, toVals_sound ps hs hzs]
end
theorem V.ofVal1 (v : Value) : V w O ι (ofVal1 v) v := by
  cases v <;> simp only [RV.ofVal1] <;> first | exact V.lit_iff.2 rfl | exact V.agg_iff.2 ⟨_, rfl, VL.lits _⟩
theorem VL.ofVal1 : ∀ (xs : List Value), VL w O ι (xs.map RV.ofVal1) xs
  | [] => by simp [VL.nil_iff]
  | x :: xs => by simpa using VL.cons (V.ofVal1 x) (VL.ofVal1 xs)
theorem V.ofVal (v : Value) : V w O ι (ofVal v) v := by
  cases v <;> simp only [RV.ofVal] <;> first | exact V.ofVal1 _ | exact V.tup_iff.2 ⟨_, rfl, VL.ofVal1 _⟩
mutual
theorem deepB_sound : ∀ (p : PV) {x : Value}, V w O ι p x → deepB p = true → V w O iota0 p x
  | .lit _, _, h, _ => by simp only [V] at h ⊢; exact h
  | .agg l, _, h, hd => by
    obtain ⟨xs, rfl, hl⟩ := V.agg_iff.1 h
    exact V.agg_iff.2 ⟨xs, rfl, deepL_sound l hl (by simpa [deepB] using hd)⟩
  | .tup l, _, h, hd => by
    obtain ⟨xs, rfl, hl⟩ := V.tup_iff.1 h
    exact V.tup_iff.2 ⟨xs, rfl, deepL_sound l hl (by simpa [deepB] using hd)⟩
  | .clo f a l, _, h, hd => by
    simp only [V] at h ⊢
    obtain ⟨ys, xs, rfl, ha, hl⟩ := h
    simp only [deepB, Bool.and_eq_true] at hd
    exact ⟨ys, xs, rfl, deepL_sound a ha hd.1, deepL_sound l hl hd.2⟩
  | .iface t q, _, h, hd => by
    simp only [V] at h ⊢
    obtain ⟨y, rfl, hy⟩ := h
    exact ⟨y, rfl, deepB_sound q hy (by simpa [deepB] using hd)⟩
  | .dsl .., _, h, _ => by simp only [V] at h ⊢; exact h
  | .dptr .., _, h, _ => by simp only [V] at h ⊢; exact h
  | .dmap .., _, h, _ => by simp only [V] at h ⊢; exact h
  | .own .., _, _, hd => by simp [deepB] at hd
  | .ptr .., _, _, hd => by simp [deepB] at hd
  | .map .., _, _, hd => by simp [deepB] at hd
  | .iter .., _, _, hd => by simp [deepB] at hd
  | .asl .., _, _, hd => by simp [deepB] at hd
theorem deepL_sound : ∀ (l : List PV) {xs : List Value}, VL w O ι l xs → deepL l = true → VL w O iota0 l xs
  | [], _, h, _ => by rw [VL.nil_iff] at h ⊢; exact h
  | p :: ps, _, h, hd => by
    obtain ⟨y, ys, rfl, hy, hs⟩ := VL.cons_iff.1 h
    simp only [deepL, Bool.and_eq_true] at hd
    exact VL.cons (deepB_sound p hy hd.1) (deepL_sound ps hs hd.2)
end
theorem VE.nil {s b o : Nat} : VE w O ι s b o [] := by simp only [VE]
theorem VE.cons_iff {s b o : Nat} {p : PV} {ps : List PV} : VE w O ι s b o (p :: ps) ↔ (∃ y, V w O ι p y ∧ y.cells.size = s ∧ CellsAt w b o y.cells.toList) ∧ VE w O ι s b (o + s) ps := by simp only [VE]
theorem VE.get {s b : Nat} : ∀ {l : List PV} {o : Nat}, VE w O ι s b o l → ∀ (i : Nat) (p : PV), l[i]? = some p → ∃ y, V w O ι p y ∧ y.cells.size = s ∧ CellsAt w b (o + i * s) y.cells.toList
  | [], _, _, i, p, hp => by simp at hp
  | q :: l, o, h, i, p, hp => by
    obtain ⟨h1, h2⟩ := VE.cons_iff.1 h
    cases i with
    | zero => simp at hp; subst hp; simpa using h1
    | succ i =>
      obtain ⟨y, hy, hs, hc⟩ := VE.get h2 i p (by simpa using hp)
      exact ⟨y, hy, hs, by rw [show o + (i + 1) * s = o + s + i * s by rw [Nat.add_mul]; omega]; exact hc⟩
theorem VE.of_get {s b : Nat} : ∀ {l : List PV} {o : Nat}, (∀ (i : Nat) (p : PV), l[i]? = some p → ∃ y, V w O ι p y ∧ y.cells.size = s ∧ CellsAt w b (o + i * s) y.cells.toList) → VE w O ι s b o l
  | [], _, _ => VE.nil
  | q :: l, o, h => by
    refine VE.cons_iff.2 ⟨by simpa using h 0 q (by simp), VE.of_get fun i p hp => ?_⟩
    obtain ⟨y, hy, hs, hc⟩ := h (i + 1) p (by simpa using hp)
    exact ⟨y, hy, hs, by rw [show o + (i + 1) * s = o + s + i * s by rw [Nat.add_mul]; omega] at hc; exact hc⟩
theorem VE.drop {s b o : Nat} {l : List PV} (h : VE w O ι s b o l) (n : Nat) : VE w O ι s b (o + n * s) (l.drop n) :=
  VE.of_get fun i p hp => by
    rw [List.getElem?_drop] at hp
    obtain ⟨y, hy, hs, hc⟩ := h.get _ p hp
    exact ⟨y, hy, hs, by rw [Nat.add_mul, ← Nat.add_assoc] at hc; exact hc⟩
theorem VE.take {s b o : Nat} {l : List PV} (h : VE w O ι s b o l) (n : Nat) : VE w O ι s b o (l.take n) :=
  VE.of_get fun i p hp => by
    rw [List.getElem?_take] at hp
    split at hp
    · exact h.get i p hp
    · cases hp
end
end Go.Proofs.YthabndifdgafbaaGreatDoor.RV
end
section
set_option linter.constructorNameAsVariable false
namespace Go.Proofs.YthabndifdgafbaaGreatDoor.RV
open Go.RowKit (Below)
def Own (ι : Iota) (H : Heap) (b : Nat) : Prop := ∃ id ver o L, H.get id = some (ver, o) ∧ o.live = true ∧ ι id ver = some L ∧ L.b = b
def Owns (O0 : Nat → Prop) (ι : Iota) (H : Heap) (b : Nat) : Prop := O0 b ∨ Own ι H b
def ObjR (w : World) (O : Nat → Prop) (ι : Iota) (L : Loc) : HObj → Prop
  | .blk s l live => L.s = s ∧ (∃ cs t fz, w.heap[L.b]? = some (.cells cs t fz) ∧ L.ce ≤ cs.size ∧ (fz.1 ≤ fz.2 ∧ ∀ i, fz.1 ≤ i → i < fz.2 → L.ce ≤ i)) ∧ L.base + l.length * s ≤ L.ce ∧ VE w O ι s L.b L.base l ∧ (live = false → ¬ O L.b)
  | .str s pos => w.heap[L.b]? = some (.stringIter s pos)
  | .mp ks vs bs clock => ∃ ents, w.heap[L.b]? = some (.map ents clock) ∧ ks = ents.toList.map (·.key) ∧ bs = ents.toList.map (·.born) ∧ VL w O ι vs (ents.toList.map (·.val))
  | .mit m since seen stepped => ∃ mr, w.heap[L.b]? = some (.mapIter mr since seen.toArray stepped) ∧ V w O ι m (.map mr)
theorem ObjR.lt {w : World} {O : Nat → Prop} {ι : Iota} {L : Loc} {o : HObj} (h : ObjR w O ι L o) : L.b < w.heap.size := by
  cases o with
  | blk s l live => obtain ⟨_, ⟨cs, t, fz, h, _⟩, _⟩ := h; exact (Array.getElem?_eq_some_iff.1 h).1
  | str s pos => exact (Array.getElem?_eq_some_iff.1 h).1
  | mp ks vs bs clock => obtain ⟨_, h, _⟩ := h; exact (Array.getElem?_eq_some_iff.1 h).1
  | mit m since seen stepped => obtain ⟨_, h, _⟩ := h; exact (Array.getElem?_eq_some_iff.1 h).1
theorem ObjR.mono {w w' : World} {O O' : Nat → Prop} {ι ι' : Iota} {L : Loc} {o : HObj} (h : ObjR w O ι L o) (he : Ext w O ι w' O' ι') (hb : w'.heap[L.b]? = w.heap[L.b]?) : ObjR w' O' ι' L o := by
  have hlt := h.lt
  cases o with
  | blk s l live =>
    obtain ⟨hs, ⟨cs, t, fz, hc, h1, h2⟩, h3, h4, h5⟩ := h
    exact ⟨hs, ⟨cs, t, fz, hb.trans hc, h1, h2⟩, h3, VE.mono he hb l _ h4, fun hl => (he.block _ hlt (h5 hl)).1⟩
  | str s pos => exact hb.trans h
  | mp ks vs bs clock =>
    obtain ⟨ents, h, h1, h2, h3⟩ := h
    exact ⟨ents, hb.trans h, h1, h2, VL.mono he _ _ h3⟩
  | mit m since seen stepped =>
    obtain ⟨mr, h, h1⟩ := h
    exact ⟨mr, hb.trans h, V.mono he _ _ h1⟩
structure Inv (cfg : Cfg) (O0 : Nat → Prop) (ι : Iota) (H : Heap) (w : World) : Prop where
  obj : ∀ id ver o, H.get id = some (ver, o) → ∃ L, ι id ver = some L ∧ ObjR w (Owns O0 ι H) ι L o
  inj : ∀ id id' ver ver' o o' L L', H.get id = some (ver, o) → H.get id' = some (ver', o') → o.live = true → o'.live = true → ι id ver = some L → ι id' ver' = some L' → L.b = L'.b → id = id'
  foreign : ∀ b, O0 b → b < w.heap.size ∧ ¬ Own ι H b
  glob : ∀ g l, cfg.glob g = some l → V w (Owns O0 ι H) iota0 (.dptr l 0) (.pointer (some ⟨g, 0, none⟩))
  fresh : ∀ id v L, ι id v = some L → ∃ ver o, H.get id = some (ver, o) ∧ v ≤ ver
  low : ∀ b, b < cfg.gl → b < w.heap.size ∧ ¬ Owns O0 ι H b
  ginv : cfg.ginv w
structure Step (ι : Iota) (H : Heap) (w : World) (ι' : Iota) (H' : Heap) (w' : World) : Prop where
  iota : ∀ id ver L, ι id ver = some L → ι' id ver = some L
  os : w'.os = w.os
  tape : w'.tape = w.tape
  output : w'.output = w.output
  size : w.heap.size ≤ w'.heap.size
  keep : ∀ b, b < w.heap.size → ¬ Own ι H b → w'.heap[b]? = w.heap[b]?
  grow : ∀ b, Own ι' H' b → Own ι H b ∨ w.heap.size ≤ b
theorem Step.refl {ι : Iota} {H : Heap} {w : World} : Step ι H w ι H w := ⟨fun _ _ _ h => h, rfl, rfl, rfl, Nat.le_refl _, fun _ _ _ => rfl, fun _ h => .inl h⟩
theorem Step.trans {ι ι' ι'' : Iota} {H H' H'' : Heap} {w w' w'' : World} (h : Step ι H w ι' H' w') (k : Step ι' H' w' ι'' H'' w'') : Step ι H w ι'' H'' w'' where
  iota := fun id ver L hL => k.iota _ _ _ (h.iota _ _ _ hL)
  os := k.os.trans h.os
  tape := k.tape.trans h.tape
  output := k.output.trans h.output
  size := Nat.le_trans h.size k.size
  keep := fun b hb ho => (k.keep b (Nat.lt_of_lt_of_le hb h.size) (fun hx => (h.grow b hx).elim ho (fun hy => by omega))).trans (h.keep b hb ho)
  grow := fun b hb => (k.grow b hb).elim (fun hx => h.grow b hx) (fun hx => .inr (Nat.le_trans h.size hx))
structure Grown (w w' : World) : Prop where
  os : w'.os = w.os
  tape : w'.tape = w.tape
  output : w'.output = w.output
  size : w.heap.size ≤ w'.heap.size
  block : ∀ b, b < w.heap.size → w'.heap[b]? = w.heap[b]?
theorem Grown.refl {w : World} : Grown w w := ⟨rfl, rfl, rfl, Nat.le_refl _, fun _ _ => rfl⟩
theorem Grown.alloc (w : World) (o : Obj) : Grown w (w.alloc o) := ⟨rfl, rfl, rfl, by simp, fun b hb => heap_alloc_old w o b hb⟩
theorem Grown.of_below {w w' : World} (h : Below w.heap.size w w') : Grown w w' := ⟨h.os, h.tape, h.output, h.size, h.block⟩
theorem Grown.below {w w' : World} (h : Grown w w') : Below w.heap.size w w' := ⟨h.os, h.tape, h.output, h.size, h.block⟩
theorem Grown.step {w w' : World} (h : Grown w w') {ι : Iota} {H : Heap} : Step ι H w ι H w' := ⟨fun _ _ _ h => h, h.os, h.tape, h.output, h.size, fun b hb _ => h.block b hb, fun _ h => .inl h⟩
theorem Grown.ext {w w' : World} (h : Grown w w') {O : Nat → Prop} {ι : Iota} : Ext w O ι w' O ι := ⟨fun b hb hO => ⟨hO, h.block b hb⟩, fun _ _ _ h => h⟩
theorem Grown.trans {w w' w'' : World} (h : Grown w w') (k : Grown w' w'') : Grown w w'' := ⟨k.os.trans h.os, k.tape.trans h.tape, k.output.trans h.output, Nat.le_trans h.size k.size, fun b hb => (k.block b (Nat.lt_of_lt_of_le hb h.size)).trans (h.block b hb)⟩
section
variable {cfg : Cfg} {O0 : Nat → Prop} {ι : Iota} {H : Heap} {w w' : World} {D : List Deferred}
theorem Inv.own_lt (hI : Inv cfg O0 ι H w) {b : Nat} (h : Own ι H b) : b < w.heap.size := by
  obtain ⟨id, ver, o, L, hg, hl, hL, rfl⟩ := h
  obtain ⟨L', hL', ho⟩ := hI.obj id ver o hg
  rw [hL] at hL'
  cases hL'
  exact ho.lt
theorem Inv.owns_lt (hI : Inv cfg O0 ι H w) {b : Nat} (h : Owns O0 ι H b) : b < w.heap.size := h.elim (fun h => (hI.foreign b h).1) hI.own_lt
theorem Step.ext {ι' : Iota} {H' : Heap} (h : Step ι H w ι' H' w') : Ext w (Owns O0 ι H) ι w' (Owns O0 ι' H') ι' :=
  ⟨fun b hb hO => ⟨fun hx => hx.elim (fun h0 => hO (.inl h0)) (fun h1 => (h.grow b h1).elim (fun h2 => hO (.inr h2)) (fun h3 => by omega)), h.keep b hb (fun hx => hO (.inr hx))⟩, h.iota⟩
theorem Inv.grown (hI : Inv cfg O0 ι H w) (h : Grown w w') : Inv cfg O0 ι H w' where
  obj := fun id ver o hg => by
    obtain ⟨L, hL, ho⟩ := hI.obj id ver o hg
    exact ⟨L, hL, ho.mono h.ext (h.block _ ho.lt)⟩
  inj := hI.inj
  foreign := fun b hb => ⟨Nat.lt_of_lt_of_le (hI.foreign b hb).1 h.size, (hI.foreign b hb).2⟩
  glob := fun g l hg => V.mono (h.ext (ι := ι)).iota0 _ _ (hI.glob g l hg)
  fresh := hI.fresh
  low := fun b hb => ⟨Nat.lt_of_lt_of_le (hI.low b hb).1 h.size, (hI.low b hb).2⟩
  ginv := cfg.gst w w' hI.ginv fun b hb => h.block b (hI.low b hb).1
def upd (ι : Iota) (k ver : Nat) (L : Loc) : Iota := fun id v => if id = k ∧ v = ver then some L else ι id v
theorem put_get {α : Type} {t : Tr α} {k : Nat} (x : α) (q : Nat) : (t.put k x).get q = if q = k then some x else t.get q := by
  rw [Tr.put_eq]
  exact Tr.get_set (depth k) t k x q (depth_ok k)
theorem Inv.set {ι' : Iota} {k ver' : Nat} {o' : HObj} {L' : Loc} (hI : Inv cfg O0 ι H w)
    (hι' : ι' = upd ι k ver' L') (hver : ∀ ver o, H.get k = some (ver, o) → ver ≤ ver') (hiota : ∀ L, ι k ver' = some L → L = L')
    (hos : w'.os = w.os) (htape : w'.tape = w.tape) (hout : w'.output = w.output) (hsz : w.heap.size ≤ w'.heap.size)
    (hkeep : ∀ b, b < w.heap.size → b ≠ L'.b → w'.heap[b]? = w.heap[b]?)
    (hL : w.heap.size ≤ L'.b ∨ ∃ ver o L, H.get k = some (ver, o) ∧ o.live = true ∧ ι k ver = some L ∧ L.b = L'.b)
    (hobj : Ext w (Owns O0 ι H) ι w' (Owns O0 ι' (H.put k (ver', o'))) ι' → ObjR w' (Owns O0 ι' (H.put k (ver', o'))) ι' L' o') :
    Inv cfg O0 ι' (H.put k (ver', o')) w' ∧ Step ι H w ι' (H.put k (ver', o')) w' := by
  have hup : ∀ id ver L, ι id ver = some L → ι' id ver = some L := fun id ver L h => by
    subst hι'
    unfold upd
    split
    · rename_i hc
      obtain ⟨rfl, rfl⟩ := hc
      rw [hiota L h]
    · exact h
  have hnew : ι' k ver' = some L' := by subst hι'; simp [upd]
  have hother : ∀ id ver, id ≠ k → ι' id ver = ι id ver := fun id ver h => by subst hι'; simp [upd, h]
  have hLown : ∀ b, b < w.heap.size → b = L'.b → Own ι H b := fun b hb e => by
    rcases hL with h | ⟨ver, o, L, h1, h2, h3, h4⟩
    · omega
    · exact ⟨k, ver, o, L, h1, h2, h3, h4.trans e.symm⟩
  have hstep : Step ι H w ι' (H.put k (ver', o')) w' := {
    iota := hup
    os := hos, tape := htape, output := hout, size := hsz
    keep := fun b hb ho => hkeep b hb (fun e => ho (hLown b hb e))
    grow := fun b hb => by
      obtain ⟨id, ver, o, L, hg, hl, hι, rfl⟩ := hb
      rw [put_get] at hg
      split at hg
      · rename_i e
        subst e
        cases hg
        rw [hnew] at hι
        cases hι
        rcases hL with h | h
        · exact .inr h
        · obtain ⟨ver, o, L, h1, h2, h3, h4⟩ := h
          exact .inl ⟨_, ver, o, L, h1, h2, h3, h4⟩
      · rename_i e
        rw [hother id ver e] at hι
        exact .inl ⟨id, ver, o, L, hg, hl, hι, rfl⟩ }
  have hext : Ext w (Owns O0 ι H) ι w' (Owns O0 ι' (H.put k (ver', o'))) ι' := hstep.ext
  refine ⟨?_, hstep⟩
  constructor
  · intro id ver o hg
    rw [put_get] at hg
    split at hg
    · rename_i e
      subst e
      cases hg
      exact ⟨L', hnew, hobj hext⟩
    · rename_i e
      obtain ⟨L, hι, ho⟩ := hI.obj id ver o hg
      refine ⟨L, hup _ _ _ hι, ho.mono hext (hkeep _ ho.lt fun hb => ?_)⟩
      have hown : Own ι H L.b := hLown _ ho.lt hb
      by_cases hlv : o.live = true
      · obtain ⟨ver2, o2, L2, h1, h2, h3, h4⟩ : ∃ ver2 o2 L2, H.get k = some (ver2, o2) ∧ o2.live = true ∧ ι k ver2 = some L2 ∧ L2.b = L'.b := by
          rcases hL with h | h
          · exact absurd ho.lt (by omega)
          · exact h
        exact e (hI.inj _ _ _ _ _ _ _ _ hg h1 hlv h2 hι h3 (hb.trans h4.symm))
      · cases o with
        | blk s l live =>
          obtain ⟨_, _, _, _, h5⟩ := ho
          exact h5 (by simpa [HObj.live] using hlv) (.inr hown)
        | _ => simp [HObj.live] at hlv
  · intro id id' ver ver'' o o'' L L'' hg hg' hl hl' hι hι2 hb
    rw [put_get] at hg hg'
    have two : ∀ (id ver : Nat) (o : HObj) (L : Loc), H.get id = some (ver, o) → o.live = true → ι id ver = some L → L.b = L'.b → id ≠ k → False := by
      intro id ver o L hg hl hι hb e
      obtain ⟨L2, hL2, ho⟩ := hI.obj id ver o hg
      rw [hι] at hL2
      cases hL2
      rcases hL with h | ⟨ver2, o2, L2, h1, h2, h3, h4⟩
      · have := ho.lt; omega
      · exact e (hI.inj _ _ _ _ _ _ _ _ hg h1 hl h2 hι h3 (hb.trans h4.symm))
    split at hg
    · rename_i e
      split at hg'
      · rename_i e'; rw [e, e']
      · rename_i e'
        cases hg
        rw [e, hnew] at hι
        cases hι
        rw [hother _ _ e'] at hι2
        exact (two _ _ _ _ hg' hl' hι2 hb.symm e').elim
    · rename_i e
      split at hg'
      · rename_i e'
        cases hg'
        rw [e', hnew] at hι2
        cases hι2
        rw [hother _ _ e] at hι
        exact (two _ _ _ _ hg hl hι hb e).elim
      · rename_i e'
        rw [hother _ _ e] at hι
        rw [hother _ _ e'] at hι2
        exact hI.inj _ _ _ _ _ _ _ _ hg hg' hl hl' hι hι2 hb
  · intro b hb
    obtain ⟨h1, h2⟩ := hI.foreign b hb
    exact ⟨by omega, fun h => (hstep.grow b h).elim h2 (fun h => by omega)⟩
  · intro g l hg
    exact V.mono hext.iota0 _ _ (hI.glob g l hg)
  · intro id v L h
    by_cases e : id = k
    · subst e
      refine ⟨ver', o', by rw [put_get]; simp, ?_⟩
      subst hι'
      unfold upd at h
      split at h
      · rename_i hc; omega
      · obtain ⟨ver, o, h1, h2⟩ := hI.fresh _ _ _ h
        exact Nat.le_trans h2 (hver ver o h1)
    · rw [hother _ _ e] at h
      obtain ⟨ver, o, h1, h2⟩ := hI.fresh _ _ _ h
      exact ⟨ver, o, by rw [put_get, if_neg e]; exact h1, h2⟩
  · intro b hb
    obtain ⟨h1, h2⟩ := hI.low b hb
    exact ⟨by omega, (hext.block b h1 h2).1⟩
  · exact cfg.gst w w' hI.ginv fun b hb => (hext.block b (hI.low b hb).1 (hI.low b hb).2).2
def quietD (cfg : Cfg) (d : Deferred) : Prop := ∃ g xs, d.target = .fn (.func g) xs ∧ cfg.quiet g = true
structure Rel (cfg : Cfg) (D : List Deferred) (O0 : Nat → Prop) (ι : Iota) (s : St) (a : Act) (w : World) : Prop where
  inv : Inv cfg O0 ι s.H w
  env : ∀ t, V w (Owns O0 ι s.H) ι (s.env.at t) (a.tmps.getD t undef)
  size : a.tmps.size = s.sz
  sz : s.sz ≤ 8000
  defers : ∀ d ∈ a.defers, quietD cfg d
theorem Rel.setD {s s' : St} {a : Act} {ι' : Iota} {H' : Heap} {m' : Nat} {dst : Option Tmp} {p : PV} {x : Value} (hR : Rel cfg D O0 ι s a w) (hs : Step ι s.H w ι' H' w') (hI : Inv cfg O0 ι' H' w')
    (hv : V w' (Owns O0 ι' H') ι' p x) (h : setD { s with H := H', m := m' } dst p = some s') : Rel cfg D O0 ι' s' (a.put dst x) w' ∧ s'.H = H' := by
  unfold RV.setD at h
  cases dst with
  | none =>
    cases h
    exact ⟨⟨hI, fun t => V.mono hs.ext _ _ (hR.env t), hR.size, hR.sz, hR.defers⟩, rfl⟩
  | some d =>
    simp only at h
    split at h <;> cases h
    rename_i hd
    have hd : d < s.sz := hd
    have hsz := hR.sz
    refine ⟨⟨hI, fun t => ?_, by simp [Act.put, hR.size], hR.sz, hR.defers⟩, rfl⟩
    show V w' (Owns O0 ι' H') ι' (Env.at (s.env.put d p) t) _
    unfold Env.at
    rw [put_get]
    by_cases e : t = d
    · subst e
      rw [if_pos rfl]
      have : (a.put (some t) x).tmps.getD t undef = x := by
        have ht : t < a.tmps.size := by rw [hR.size]; exact hd
        simp [Act.put, ht]
      rw [this]
      exact hv
    · rw [if_neg e]
      have : (a.put (some d) x).tmps.getD t undef = a.tmps.getD t undef := by
        simp [Act.put, Ne.symm e]
      rw [this]
      exact V.mono hs.ext _ _ (hR.env t)
end
end Go.Proofs.YthabndifdgafbaaGreatDoor.RV
end
section
set_option linter.constructorNameAsVariable false
namespace Go.Proofs.YthabndifdgafbaaGreatDoor.RV
open Go.RowKit (Below)
theorem pureRun_sound {α : Type} {P : Program} {w : World} : ∀ {s : Sem α} {a : α}, pureRun P s = some a → s.run P w = .ok a w := by
  intro s
  induction s with
  | pure b => intro a h; simp only [pureRun, Option.some.injEq] at h; subst h; rfl
  | program k ih => intro a h; simp only [pureRun] at h; exact ih _ h
  | _ => intro a h; simp [pureRun] at h
def Yields' (_P : Program) (w : World) (O : Nat → Prop) (ι : Iota) (p : PV) (r : Result Next) : Prop :=
  ∃ x w', r = .ok (.value x) w' ∧ Grown w w' ∧ V w' O ι p x
section
variable {cfg : Cfg} {env : Env} {w : World} {O : Nat → Prop} {ι : Iota} {ρ : Operand → Value}
theorem Yields'.here {P : Program} {p : PV} {x : Value} {r : Result Next} (h : r = .ok (.value x) w) (hv : V w O ι p x) : Yields' P w O ι p r := ⟨x, w, h, .refl, hv⟩
theorem litOk_spec : ∀ {l : List Operand}, litOk cfg env l = true → ∀ x ∈ l, ∃ p v, evO cfg env x = some p ∧ toVal p = some v
  | [], _, x, hx => by cases hx
  | y :: l, h, x, hx => by
    unfold litOk at h
    split at h
    · rename_i p hp
      split at h
      · rename_i v hv
        rcases List.mem_cons.1 hx with rfl | hx
        · exact ⟨p, v, hp, hv⟩
        · exact litOk_spec h x hx
      · cases h
    · cases h
theorem litRun_sound {o : Oper} {p : PV} (hE : ∀ x q, evO cfg env x = some q → V w O ι q (ρ x)) (h : litRun cfg env o = some p) :
    Yields' cfg.P w O ι p ((execOp ρ o).run cfg.P w) := by
  unfold litRun at h
  split at h
  · cases h
  rename_i hsel
  split at h
  · rename_i hok
    have hρ : ∀ x ∈ o.op.operands, ρ x = litOf cfg env x := fun x hx => by
      obtain ⟨q, v, hq, hv⟩ := litOk_spec hok x (by simpa using hx)
      have := toVal_sound q (hE x q hq) hv
      simp [litOf, hq, hv, this]
    have hs : ∀ cs b, o.op ≠ .select cs b := fun cs b hc => by rw [hc] at hsel; simp [isSel] at hsel
    rw [execOp_congr o hs hρ]
    split at h <;> cases h
    rename_i v hv
    exact .here (pureRun_sound hv) (V.ofVal v)
  · cases h
theorem szO_spec {P : Program} {t : TypeId} {n : Nat} (h : szO P t = some n) : ∃ i, P.info? t = some i ∧ i.size = n := by
  unfold szO at h; split at h <;> cases h; rename_i i hi; exact ⟨i, hi, rfl⟩
theorem run_sizeOf {P : Program} {t : TypeId} {n : Nat} (h : szO P t = some n) (w : World) : (sizeOf t).run P w = .ok n w := by
  obtain ⟨i, hi, rfl⟩ := szO_spec h
  simp [sizeOf, typeInfo, hi]
theorem run_isAgg {P : Program} {t : TypeId} {b : Bool} (h : isAggO P t = some b) (w : World) : (isAgg t).run P w = .ok b w := by
  unfold isAggO at h
  unfold isAgg
  split at h <;> cases h <;> rename_i hu
  · rw [Sem.run_bind, run_underlying hu w]; rfl
  · rw [Sem.run_bind, run_underlying hu w]; rfl
  · rename_i d h1 h2
    rw [Sem.run_bind, run_underlying hu w]
    cases d <;> first | rfl | exact absurd rfl (h1 _) | exact absurd rfl (h2 _ _)
theorem zeroO_spec {P : Program} {t : TypeId} {z : PV} (h : zeroO P t = some z) : ∃ i v, P.info? t = some i ∧ i.zero = some v ∧ z = ofVal1 v ∧ ∀ w O ι, V w O ι z v := by
  unfold zeroO at h
  split at h
  · rename_i i hi
    split at h
    · rename_i v hv
      split at h <;> cases h
      exact ⟨i, v, hi, hv, rfl, fun w O ι => V.ofVal1 v⟩
    · cases h
  · cases h
theorem run_zeroValue {P : Program} {t : TypeId} {i : TypeInfo} {v : Value} (hi : P.info? t = some i) (hv : i.zero = some v) (w : World) : (zeroValue t).run P w = .ok v w := by
  simp [zeroValue, typeInfo, hi, hv]
theorem evOs_sound (hE : ∀ x q, evO cfg env x = some q → V w O ι q (ρ x)) : ∀ {xs : List Operand} {ps : List PV}, evOs cfg env xs = some ps → VL w O ι ps (xs.map ρ)
  | [], ps, h => by simp only [evOs, Option.some.injEq] at h; subst h; simp [VL.nil_iff]
  | x :: xs, ps, h => by
    unfold evOs at h
    split at h
    · rename_i p hp
      split at h <;> cases h
      rename_i qs hqs
      simpa using VL.cons (hE x p hp) (evOs_sound hE hqs)
    · cases h
theorem list_foldl_set (off : Nat) : ∀ (vs : List Value) (k : Nat) (cells : Array Value), off + k + vs.length ≤ cells.size →
    ((vs.zipIdx k).foldl (fun cs (x : Value × Nat) => cs.setIfInBounds (off + x.2) x.1) cells).toList = cells.toList.take (off + k) ++ (vs ++ cells.toList.drop (off + k + vs.length))
  | [], k, cells, _ => by simp
  | v :: vs, k, cells, h => by
    simp only [List.zipIdx_cons, List.foldl_cons]
    have hk : off + k < cells.size := by simp at h; omega
    rw [list_foldl_set off vs (k + 1) _ (by simp at h ⊢; omega)]
    apply List.ext_getElem?
    intro i
    simp only [Array.toList_setIfInBounds, List.getElem?_append, List.length_take, List.length_set, Array.length_toList, List.getElem?_take, List.getElem?_set, List.length_cons, List.getElem?_drop]
    simp only [List.length_cons] at h
    have e1 : min (off + (k + 1)) cells.size = off + k + 1 := by omega
    have e2 : min (off + k) cells.size = off + k := by omega
    rw [e1, e2]
    by_cases h1 : i < off + k
    · rw [if_pos (by omega), if_pos (by omega), if_neg (by omega), if_pos h1, if_pos (by omega)]
    · by_cases h2 : i = off + k
      · subst h2
        rw [if_pos (by omega), if_pos (by omega), if_pos rfl, if_pos (by omega), if_neg (by omega), if_pos (by omega)]
        simp
      · rw [if_neg (by omega), if_neg h1]
        by_cases h3 : i - (off + k) < vs.length + 1
        · rw [if_pos (by omega), if_pos h3, show i - (off + k) = (i - (off + k + 1)) + 1 by omega, List.getElem?_cons_succ]
        · rw [if_neg (by omega), if_neg h3, if_neg (by omega)]
          congr 1
          omega
theorem VL.splice {l xs : List PV} {ys zs : List Value} (h : VL w O ι l ys) (hx : VL w O ι xs zs) (off : Nat) : VL w O ι (splice l off xs) (ys.take off ++ (zs ++ ys.drop (off + zs.length))) := by
  unfold RV.splice
  rw [hx.length]
  exact (h.take off).append (hx.append (h.drop _))
inductive PartsR (w : World) (O : Nat → Prop) (ι : Iota) : List (Nat × PV) → List (Nat × Value) → Prop
  | nil : PartsR w O ι [] []
  | cons {i : Nat} {p : PV} {x : Value} {ps : List (Nat × PV)} {xs : List (Nat × Value)} : V w O ι p x → PartsR w O ι ps xs → PartsR w O ι ((i, p) :: ps) ((i, x) :: xs)
theorem evParts_sound (hE : ∀ x q, evO cfg env x = some q → V w O ι q (ρ x)) : ∀ {xs : List (Nat × Operand)} {ps : List (Nat × PV)}, evParts cfg env xs = some ps → PartsR w O ι ps (xs.map fun (i, x) => (i, ρ x))
  | [], ps, h => by simp only [evParts, Option.some.injEq] at h; subst h; exact .nil
  | (i, x) :: xs, ps, h => by
    unfold evParts at h
    split at h
    · rename_i p hp
      split at h <;> cases h
      rename_i qs hqs
      exact .cons (hE x p hp) (evParts_sound hE hqs)
    · cases h
theorem fillA_sound {place : Nat → Option (Nat × Nat)} {ps : List (Nat × PV)} {xs : List (Nat × Value)} (hp : PartsR w O ι ps xs) : ∀ {cs cs' : List PV} {cells : Array Value},
    VL w O ι cs cells.toList → fillA place cs ps = some cs' → ∃ cells', Instr.fill place cells xs = some cells' ∧ VL w O ι cs' cells'.toList := by
  induction hp with
  | nil => intro cs cs' cells hl h; simp only [fillA, Option.some.injEq] at h; subst h; exact ⟨cells, rfl, hl⟩
  | @cons i p x ps xs hv _ ih =>
    intro cs cs' cells hl h
    unfold fillA at h
    unfold Instr.fill
    split at h
    · cases h
    rename_i off size hpl
    split at h
    · rename_i hc
      obtain ⟨h1, h2⟩ := hc
      have hxl : x.cells.size = size := by rw [← h1, ← hv.cells.length]; simp
      have hcl : cells.size = cs.length := by rw [← hl.length]; simp
      have hcell := hv.cells
      have hfold := list_foldl_set off x.cells.toList 0 cells (by simp; omega)
      have hz : (x.cells.zipIdx.foldl (fun cs (x : Value × Nat) => cs.setIfInBounds (off + x.2) x.1) cells).toList = cells.toList.take off ++ (x.cells.toList ++ cells.toList.drop (off + x.cells.toList.length)) := by
        rw [← Array.foldl_toList, Array.toList_zipIdx]
        simpa using hfold
      have hvl := VL.splice hl hcell off
      rw [← hz] at hvl
      obtain ⟨cells', hf, hr⟩ := ih hvl h
      refine ⟨cells', ?_, hr⟩
      simp only [hpl]
      rw [if_neg (by simp [hxl]; omega)]
      exact hf
    · cases h
theorem run_mapM_sizes {P : Program} (w : World) : ∀ (l : List Field), sizesOk P l = true →
    (l.mapM (fun f => do pure (f.offset, ← sizeOf f.type) : Field → Sem (Nat × Nat))).run P w = .ok (l.map fun f => (f.offset, (szO P f.type).getD 0)) w
  | [], _ => by simp
  | f :: l, h => by
    unfold sizesOk at h
    split at h
    · rename_i n hn
      have ih := run_mapM_sizes w l h
      simp only [bind_pure_comp] at ih
      simp [List.mapM_cons, run_sizeOf hn, ih, hn]
    · cases h
theorem sizesOk_get {P : Program} : ∀ {l : List Field}, sizesOk P l = true → ∀ f ∈ l, ∃ n, szO P f.type = some n
  | [], _, f, hf => by cases hf
  | g :: l, h, f, hf => by
    unfold sizesOk at h
    split at h
    · rename_i n hn
      rcases List.mem_cons.1 hf with rfl | hf
      · exact ⟨n, hn⟩
      · exact sizesOk_get h f hf
    · cases h
theorem buildA_sound {t : TypeId} {parts : Array (Nat × Operand)} {p : PV} (hE : ∀ x q, evO cfg env x = some q → V w O ι q (ρ x)) (h : buildA cfg env t parts.toList = some p) :
    ∃ x, (Instr.build t (parts.map fun (i, x) => (i, ρ x))).run cfg.P w = .ok x w ∧ V w O ι p x := by
  unfold buildA at h
  split at h
  · rename_i z fields ps hz hu hps
    split at h
    · rename_i hok
      obtain ⟨i, v, hi, hv, hzv, hV⟩ := zeroO_spec hz
      · obtain ⟨cs, hf, rfl⟩ := Option.map_eq_some_iff.1 h
        obtain ⟨cells', hfill, hl⟩ := fillA_sound (cells := v.cells) (evParts_sound hE hps) (hV w O ι).cells hf
        refine ⟨.agg cells', ?_, V.agg_iff.2 ⟨_, rfl, hl⟩⟩
        have hpl : placeS cfg.P fields = (fun i => ((fields.toList.map fun f => (f.offset, (szO cfg.P f.type).getD 0)).toArray)[i]?) := by
          funext i
          unfold placeS
          cases hfi : fields[i]? with
          | none => simp [hfi]
          | some f =>
            obtain ⟨n, hn⟩ := sizesOk_get hok f (by simpa using Array.mem_of_getElem? hfi)
            simp [hfi, hn]
        rw [hpl] at hfill
        have hm : (fields.mapM (fun f => do pure (f.offset, ← sizeOf f.type) : Field → Sem (Nat × Nat))).run cfg.P w = .ok (fields.toList.map fun f => (f.offset, (szO cfg.P f.type).getD 0)).toArray w := by
          rw [Array.mapM_eq_mapM_toList, Sem.run_map, run_mapM_sizes w _ hok]
          rfl
        unfold Instr.build
        rw [Sem.run_bind, run_zeroValue hi hv w, Result.andThen_ok, Sem.run_bind, run_underlying hu w, Result.andThen_ok]
        simp only [Sem.run_bind, hm, Result.andThen_ok, Array.toList_map, hfill, Sem.run_pure]
    · cases h
  · rename_i z n elem ps hz hu hps
    split at h
    · rename_i size hsz
      obtain ⟨i, v, hi, hv, hzv, hV⟩ := zeroO_spec hz
      · obtain ⟨cs, hf, rfl⟩ := Option.map_eq_some_iff.1 h
        obtain ⟨cells', hfill, hl⟩ := fillA_sound (cells := v.cells) (evParts_sound hE hps) (hV w O ι).cells hf
        refine ⟨.agg cells', ?_, V.agg_iff.2 ⟨_, rfl, hl⟩⟩
        unfold Instr.build
        rw [Sem.run_bind, run_zeroValue hi hv w, Result.andThen_ok, Sem.run_bind, run_underlying hu w, Result.andThen_ok]
        simp only [Sem.run_bind, run_sizeOf hsz, Result.andThen_ok, Array.toList_map, hfill, Sem.run_pure]
    · cases h
  · cases h
end
end Go.Proofs.YthabndifdgafbaaGreatDoor.RV
end
section
set_option linter.constructorNameAsVariable false
namespace Go.Proofs.YthabndifdgafbaaGreatDoor.RV
open Go.RowKit (Below)
section
variable {cfg : Cfg} {env : Env} {w : World} {O : Nat → Prop} {ι : Iota} {ρ : Operand → Value}
theorem partO_sound {P : Program} {t : TypeId} {l : List PV} {cs : Array Value} {off : Nat} {p : PV} (hl : VL w O ι l cs.toList) (h : partO P t l off = some p) :
    ∃ x, (part t cs off).run P w = .ok x w ∧ V w O ι p x := by
  unfold partO at h
  unfold part
  split at h
  · rename_i n ha hn
    split at h <;> cases h
    refine ⟨.agg (cs.extract off (off + n)), ?_, V.agg_iff.2 ⟨_, rfl, ?_⟩⟩
    · simp [run_isAgg ha, run_sizeOf hn]
    · have := (hl.drop off).take n
      simpa [List.extract_eq_take_drop] using this
  · rename_i n ha hn
    obtain ⟨x, hx, hv⟩ := hl.get _ _ h
    refine ⟨x, ?_, hv⟩
    simp [run_isAgg ha] at hx ⊢
    simp [hx]
  · cases h
theorem fieldA_sound {t : TypeId} {x : Operand} {i : Nat} {p : PV} (hE : ∀ x q, evO cfg env x = some q → V w O ι q (ρ x)) (h : fieldA cfg env t x i = some p) :
    ∃ y, (Instr.field t (ρ x) i).run cfg.P w = .ok y w ∧ V w O ι p y := by
  unfold fieldA at h
  split at h
  · rename_i fields l hu hx
    split at h
    · rename_i f hf
      obtain ⟨cs, hcs, hl⟩ := V.agg_iff.1 (hE x _ hx)
      obtain ⟨y, hy, hv⟩ := partO_sound hl h
      refine ⟨y, ?_, hv⟩
      simp [Instr.field, run_underlying hu, hf, hcs, asAgg, hy]
    · cases h
  · cases h
theorem V.ptr_iff {id ver idx off : Nat} {x : Value} : V w O ι (.ptr id ver idx off) x ↔ ∃ L, ι id ver = some L ∧ x = .pointer (some ⟨L.b, L.base + idx * L.s + off, none⟩) := by simp only [V]
theorem V.dptr_iff {l : List PV} {off : Nat} {x : Value} : V w O ι (.dptr l off) x ↔ ∃ b o ys, x = .pointer (some ⟨b, o + off, none⟩) ∧ ¬ O b ∧ CellsAt w b o ys ∧ VL w O iota0 l ys := by simp only [V]
theorem V.own_iff {id ver s off len : Nat} {cap : Option Nat} {x : Value} : V w O ι (.own id ver s off len cap) x ↔ ∃ L c, ι id ver = some L ∧ L.s = s ∧ x = .slice (some ⟨L.b, L.base + off * s, none⟩) len c ∧ L.base + off * s + c * s ≤ L.ce ∧ len ≤ c ∧ (∀ k, cap = some k → c = k) := by simp only [V]
theorem V.dsl_iff {s : Nat} {l : List PV} {cap : Option Nat} {x : Value} : V w O ι (.dsl s l cap) x ↔ ∃ a c, x = .slice a l.length c ∧ l.length ≤ c ∧ (∀ k, cap = some k → c = k) ∧ (l = [] ∨ ∃ b o, a = some ⟨b, o, none⟩ ∧ ¬ O b ∧ VE w O iota0 s b o l) := by simp only [V]
theorem V.clo_iff {f : FuncId} {a l : List PV} {x : Value} : V w O ι (.clo f a l) x ↔ ∃ ys xs, x = .func (.func f) ys xs ∧ VL w O ι a ys.toList ∧ VL w O ι l xs.toList := by simp only [V]
theorem fieldAddrA_sound {t : TypeId} {x : Operand} {i : Nat} {p : PV} (hE : ∀ x q, evO cfg env x = some q → V w O ι q (ρ x)) (h : fieldAddrA cfg env t x i = some p) :
    ∃ y, (Instr.fieldAt t (ρ x) i).run cfg.P w = .ok y w ∧ V w O ι p y := by
  unfold fieldAddrA at h
  split at h
  · rename_i fields hu
    split at h
    · rename_i f hf
      split at h
      · cases h
      · cases h
      · rename_i n hn0 hn
        have hne : n ≠ 0 := hn0
        split at h
        · rename_i id ver idx off hx
          cases h
          obtain ⟨L, hL, hxx⟩ := V.ptr_iff.1 (hE x _ hx)
          refine ⟨.pointer (some ⟨L.b, L.base + idx * L.s + (off + f.offset), none⟩), ?_, V.ptr_iff.2 ⟨L, hL, rfl⟩⟩
          simp [Instr.fieldAt, run_underlying hu, hf, hxx, Instr.sureAddr, fieldPlace, run_sizeOf hn, hne, Addr.add_mid, Nat.add_assoc]
        · rename_i l off hx
          cases h
          obtain ⟨b, o, ys, hxx, r⟩ := V.dptr_iff.1 (hE x _ hx)
          refine ⟨.pointer (some ⟨b, o + (off + f.offset), none⟩), ?_, V.dptr_iff.2 ⟨b, o, ys, rfl, r⟩⟩
          simp [Instr.fieldAt, run_underlying hu, hf, hxx, Instr.sureAddr, fieldPlace, run_sizeOf hn, hne, Addr.add_mid, Nat.add_assoc]
        · cases h
    · cases h
  · cases h
theorem natLit_spec {x : Option PV} {n : Nat} (h : natLit x = some n) : ∃ k, x = some (.lit (.int k n)) := by
  unfold natLit at h
  split at h <;> cases h
  rename_i k
  exact ⟨k, rfl⟩
theorem nat_operand {x : Operand} {n : Nat} (hE : ∀ x q, evO cfg env x = some q → V w O ι q (ρ x)) (h : natLit (evO cfg env x) = some n) : ∃ k, ρ x = .int k n := by
  obtain ⟨k, hk⟩ := natLit_spec h
  exact ⟨k, V.lit_iff.1 (hE x _ hk)⟩
theorem indexAddrA_sound {t : TypeId} {x ix : Operand} {p : PV} (hE : ∀ x q, evO cfg env x = some q → V w O ι q (ρ x)) (h : indexAddrA cfg env t x ix = some p) :
    ∃ y, (Instr.indexAt t (ρ x) (ρ ix)).run cfg.P w = .ok y w ∧ V w O ι p y := by
  unfold indexAddrA at h
  split at h
  · cases h
  rename_i i hi
  obtain ⟨k, hk⟩ := nat_operand hE hi
  split at h
  · rename_i elem hu
    split at h
    · rename_i sz hsz
      split at h
      · rename_i id ver s off len cap hx
        split at h <;> cases h
        rename_i hc
        obtain ⟨hlt, rfl⟩ := hc
        obtain ⟨L, c, hL, hs, hxx, _⟩ := V.own_iff.1 (hE x _ hx)
        refine ⟨.pointer (some ⟨L.b, L.base + (off + i) * L.s + 0, none⟩), ?_, V.ptr_iff.2 ⟨L, hL, rfl⟩⟩
        simp [Instr.indexAt, hk, asIntOf, run_underlying hu, hxx, hlt, run_sizeOf hsz, Addr.add_mid, hs, Nat.add_mul, Nat.add_assoc]
      · rename_i s l cap hx
        split at h <;> try cases h
        rename_i hs
        subst hs
        split at h <;> cases h
        rename_i q hq
        obtain ⟨a, c, hxx, _, _, hr⟩ := V.dsl_iff.1 (hE x _ hx)
        have hlt : i < l.length := (List.getElem?_eq_some_iff.1 hq).1
        rcases hr with rfl | ⟨b, o, rfl, hO, hVE⟩
        · simp at hlt
        obtain ⟨y, hy, hys, hc⟩ := hVE.get i q hq
        refine ⟨.pointer (some ⟨b, o + i * s + 0, none⟩), ?_, V.dptr_iff.2 ⟨b, o + i * s, _, rfl, hO, hc, hy.cells⟩⟩
        simp [Instr.indexAt, hk, asIntOf, run_underlying hu, hxx, hlt, run_sizeOf hsz, Addr.add_mid]
      · cases h
    · cases h
  · rename_i n elem hu
    split at h
    · rename_i sz hsz
      split at h <;> try cases h
      rename_i hlt
      split at h
      · rename_i id ver idx off hx
        cases h
        obtain ⟨L, hL, hxx⟩ := V.ptr_iff.1 (hE x _ hx)
        refine ⟨.pointer (some ⟨L.b, L.base + idx * L.s + (off + i * sz), none⟩), ?_, V.ptr_iff.2 ⟨L, hL, rfl⟩⟩
        simp [Instr.indexAt, hk, asIntOf, run_underlying hu, hxx, hlt, run_sizeOf hsz, Instr.sureAddr, Addr.add_mid, Nat.add_assoc]
      · rename_i l off hx
        cases h
        obtain ⟨b, o, ys, hxx, r⟩ := V.dptr_iff.1 (hE x _ hx)
        refine ⟨.pointer (some ⟨b, o + (off + i * sz), none⟩), ?_, V.dptr_iff.2 ⟨b, o, ys, rfl, r⟩⟩
        simp [Instr.indexAt, hk, asIntOf, run_underlying hu, hxx, hlt, run_sizeOf hsz, Instr.sureAddr, Addr.add_mid, Nat.add_assoc]
      · cases h
    · cases h
  · cases h
theorem optNat_spec {x : Option Operand} {n : Option Nat} (hE : ∀ x q, evO cfg env x = some q → V w O ι q (ρ x)) (h : optNat cfg env x = some n) :
    (x = none ∧ n = none) ∨ ∃ y m k, x = some y ∧ n = some m ∧ ρ y = .int k m := by
  unfold optNat at h
  split at h
  · cases h; exact .inl ⟨rfl, rfl⟩
  · split at h <;> cases h
    rename_i y _ m hm
    obtain ⟨k, hk⟩ := nat_operand hE hm
    exact .inr ⟨y, m, k, rfl, rfl, hk⟩
theorem run_bound {P : Program} {k : IntKind} {i y : Nat} {code : BoundsCode} (h : i ≤ y) (w : World) : (Instr.sliceBound (.int k i) y code).run P w = .ok i w := by
  simp [Instr.sliceBound, asIntOf, h]
theorem run_sliceGen {P : Program} {t elem : TypeId} {sz : Nat} {a : Option Addr} {len cap : Nat} {lo hi mx : Option Value} {l h m : Nat} (hu : P.underlying t = some (.slice elem)) (hsz : szO P elem = some sz)
    (hlo : (lo = none ∧ l = 0) ∨ ∃ k, lo = some (.int k l)) (hhi : (hi = none ∧ h = len ∧ mx = none) ∨ ∃ k, hi = some (.int k h)) (hmx : (mx = none ∧ m = cap) ∨ ∃ k, mx = some (.int k m))
    (h1 : l ≤ h) (h2 : h ≤ m) (h3 : m ≤ cap) :
    (Instr.sliceAt t (.slice a len cap) lo hi mx).run P w = .ok (.slice (if m = l then a else a.map (·.add (l * sz))) (h - l) (m - l)) w := by
  have hb : (Instr.sliceBounds true len cap lo hi mx).run P w = .ok (l, h, m) w := by
    unfold Instr.sliceBounds
    rcases hlo with ⟨hl, hl'⟩ | ⟨kl, hl⟩ <;> rcases hhi with ⟨hh, hh', hh''⟩ | ⟨kh, hh⟩ <;> rcases hmx with ⟨hm, hm'⟩ | ⟨km, hm⟩ <;> simp_all [run_bound]
  simp [Instr.sliceAt, Instr.slice, run_underlying hu, hb, run_sizeOf hsz]
theorem sliceA_sound {t : TypeId} {x : Operand} {lo hi mx : Option Operand} {p : PV} (hE : ∀ x q, evO cfg env x = some q → V w O ι q (ρ x)) (h : sliceA cfg env t x lo hi mx = some p) :
    ∃ y, (Instr.sliceAt t (ρ x) (lo.map ρ) (hi.map ρ) (mx.map ρ)).run cfg.P w = .ok y w ∧ V w O ι p y := by
  unfold sliceA at h
  split at h
  · rename_i id ver s off len cap lo' hi' mx' hx hlo hhi hmx
    split at h
    · rename_i elem hu
      simp only at h
      split at h <;> try cases h
      rename_i hc
      obtain ⟨hsz, h1, h2⟩ := hc
      obtain ⟨L, c, hL, hs, hxx, hce, hlc, hk⟩ := V.own_iff.1 (hE x _ hx)
      have Hlo : (lo.map ρ = none ∧ lo'.getD 0 = 0) ∨ ∃ k, lo.map ρ = some (.int k (lo'.getD 0 : Nat)) := by
        rcases optNat_spec hE hlo with ⟨rfl, rfl⟩ | ⟨y, m, k, rfl, rfl, hy⟩
        · exact .inl ⟨rfl, rfl⟩
        · exact .inr ⟨k, by simp [hy]⟩
      rw [hxx]
      split at h
      · rename_i m
        split at h <;> try cases h
        rename_i hc
        obtain ⟨hhs, h3, h4⟩ := hc
        have Hhi : ∃ k, hi.map ρ = some (.int k (hi'.getD len : Nat)) := by
          rcases optNat_spec hE hhi with ⟨rfl, rfl⟩ | ⟨y, m, k, rfl, rfl, hy⟩
          · cases hhs
          · exact ⟨k, by simp [hy]⟩
        have Hmx : ∃ k, mx.map ρ = some (.int k (m : Nat)) := by
          rcases optNat_spec hE hmx with ⟨_, h⟩ | ⟨y, m', k, rfl, h, hy⟩
          · cases h
          · cases h; exact ⟨k, by simp [hy]⟩
        refine ⟨_, run_sliceGen (m := m) hu hsz Hlo (.inr Hhi) (.inr Hmx) h1 h3 (by omega), ?_⟩
        split at h
        · rename_i e
          cases h
          rw [if_pos e]
          refine V.own_iff.2 ⟨L, 0, hL, hs, ?_, by omega, by omega, by simp⟩
          rw [show hi'.getD len - lo'.getD 0 = 0 by omega, show m - lo'.getD 0 = 0 by omega]
        · rename_i e
          cases h
          rw [if_neg e]
          refine V.own_iff.2 ⟨L, m - lo'.getD 0, hL, hs, ?_, ?_, by omega, by simp⟩
          · simp [Addr.add_mid, Nat.add_mul, Nat.add_assoc]
          · have : (off + lo'.getD 0) * s + (m - lo'.getD 0) * s ≤ off * s + c * s := by
              rw [← Nat.add_mul, ← Nat.add_mul]
              exact Nat.mul_le_mul_right _ (by omega)
            omega
      · have Hmx : mx.map ρ = none := by
          rcases optNat_spec hE hmx with ⟨rfl, _⟩ | ⟨y, m', k, _, h, _⟩
          · rfl
          · cases h
        have Hhi : (hi.map ρ = none ∧ hi'.getD len = len ∧ mx.map ρ = none) ∨ ∃ k, hi.map ρ = some (.int k (hi'.getD len : Nat)) := by
          rcases optNat_spec hE hhi with ⟨rfl, rfl⟩ | ⟨y, m, k, rfl, rfl, hy⟩
          · exact .inl ⟨rfl, rfl, Hmx⟩
          · exact .inr ⟨k, by simp [hy]⟩
        refine ⟨_, run_sliceGen (m := c) hu hsz Hlo Hhi (.inl ⟨Hmx, rfl⟩) h1 (by omega) (Nat.le_refl _), ?_⟩
        split at h
        · rename_i e
          cases h
          refine V.own_iff.2 ⟨L, c, hL, hs, ?_, hce, by omega, hk⟩
          rw [e]
          split <;> simp [Addr.add_mid]
        · rename_i e
          split at h
          · rename_i e2
            cases h
            rw [if_neg (by omega)]
            refine V.own_iff.2 ⟨L, c - lo'.getD 0, hL, hs, ?_, ?_, by omega, ?_⟩
            · simp [Addr.add_mid, Nat.add_mul, Nat.add_assoc]
            · have : (off + lo'.getD 0) * s + (c - lo'.getD 0) * s ≤ off * s + c * s := by
                rw [← Nat.add_mul, ← Nat.add_mul]
                exact Nat.mul_le_mul_right _ (by omega)
              omega
            · intro k hk'
              simp only [Option.map_eq_some_iff] at hk'
              obtain ⟨k', hk1, rfl⟩ := hk'
              rw [hk k' hk1]
          · rename_i e2
            cases h
            rw [show hi'.getD len - lo'.getD 0 = 0 by omega]
            refine V.dsl_iff.2 ⟨_, c - lo'.getD 0, rfl, by simp, ?_, .inl rfl⟩
            intro k hk
            cases hk
    · cases h
  · rename_i s l0 cap0 lo' hi' mx' hx hlo hhi hmx
    split at h
    · rename_i elem hu
      simp only at h
      split at h <;> try cases h
      rename_i hc
      obtain ⟨hsz, h1, h2⟩ := hc
      obtain ⟨a, c, hxx, hlc, hk, hr⟩ := V.dsl_iff.1 (hE x _ hx)
      have Hlo : (lo.map ρ = none ∧ lo'.getD 0 = 0) ∨ ∃ k, lo.map ρ = some (.int k (lo'.getD 0 : Nat)) := by
        rcases optNat_spec hE hlo with ⟨rfl, rfl⟩ | ⟨y, m, k, rfl, rfl, hy⟩
        · exact .inl ⟨rfl, rfl⟩
        · exact .inr ⟨k, by simp [hy]⟩
      have fin : ∀ m, hi'.getD l0.length ≤ m → m ≤ c → ∀ cap', (∀ k, cap' = some k → m - lo'.getD 0 = k) →
          V w O ι (.dsl s ((l0.drop (lo'.getD 0)).take (hi'.getD l0.length - lo'.getD 0)) cap') (.slice (if m = lo'.getD 0 then a else a.map (·.add (lo'.getD 0 * s))) (hi'.getD l0.length - lo'.getD 0) (m - lo'.getD 0)) := by
        intro m hm1 hm2 cap' hcap'
        have hlen : ((l0.drop (lo'.getD 0)).take (hi'.getD l0.length - lo'.getD 0)).length = hi'.getD l0.length - lo'.getD 0 := by simp; omega
        refine V.dsl_iff.2 ⟨_, _, by rw [hlen], by rw [hlen]; omega, fun k hk => hcap' k hk, ?_⟩
        by_cases hem : hi'.getD l0.length - lo'.getD 0 = 0
        · left; rw [hem]; simp
        · right
          rcases hr with rfl | ⟨b, o, rfl, hO, hVE⟩
          · exfalso
            have h2' : hi'.getD ([] : List PV).length ≤ 0 := h2
            exact hem (by omega)
          · rw [if_neg (by omega)]
            exact ⟨b, o + lo'.getD 0 * s, by simp [Addr.add_mid], hO, (hVE.drop _).take _⟩
      rw [hxx]
      split at h
      · rename_i m
        split at h <;> try cases h
        rename_i hc
        obtain ⟨hhs, h3, h4⟩ := hc
        have Hhi : ∃ k, hi.map ρ = some (.int k (hi'.getD l0.length : Nat)) := by
          rcases optNat_spec hE hhi with ⟨rfl, rfl⟩ | ⟨y, m, k, rfl, rfl, hy⟩
          · cases hhs
          · exact ⟨k, by simp [hy]⟩
        have Hmx : ∃ k, mx.map ρ = some (.int k (m : Nat)) := by
          rcases optNat_spec hE hmx with ⟨_, h⟩ | ⟨y, m', k, rfl, h, hy⟩
          · cases h
          · cases h; exact ⟨k, by simp [hy]⟩
        exact ⟨_, run_sliceGen (m := m) hu hsz Hlo (.inr Hhi) (.inr Hmx) h1 h3 (by omega), fin m h3 (by omega) _ (by simp)⟩
      · cases h
        have Hmx : mx.map ρ = none := by
          rcases optNat_spec hE hmx with ⟨rfl, _⟩ | ⟨y, m', k, _, h, _⟩
          · rfl
          · cases h
        have Hhi : (hi.map ρ = none ∧ hi'.getD l0.length = l0.length ∧ mx.map ρ = none) ∨ ∃ k, hi.map ρ = some (.int k (hi'.getD l0.length : Nat)) := by
          rcases optNat_spec hE hhi with ⟨rfl, rfl⟩ | ⟨y, m, k, rfl, rfl, hy⟩
          · exact .inl ⟨rfl, rfl, Hmx⟩
          · exact .inr ⟨k, by simp [hy]⟩
        exact ⟨_, run_sliceGen (m := c) hu hsz Hlo Hhi (.inl ⟨Hmx, rfl⟩) h1 (by omega) (Nat.le_refl _), fin c (by omega) (Nat.le_refl _) _ (fun k hk => by cases hk)⟩
    · cases h
  · rename_i id ver idx off lo' hi' hx hlo hhi hmx
    split at h
    · rename_i n elem hu
      simp only at h
      split at h <;> cases h
      rename_i hc
      obtain ⟨hsz, h1, h2, h3⟩ := hc
      obtain ⟨L, hL, hxx⟩ := V.ptr_iff.1 (hE x _ hx)
      have Hlo : (lo.map ρ = none ∧ lo'.getD 0 = 0) ∨ ∃ k, lo.map ρ = some (.int k (lo'.getD 0 : Nat)) := by
        rcases optNat_spec hE hlo with ⟨rfl, rfl⟩ | ⟨y, m, k, rfl, rfl, hy⟩
        · exact .inl ⟨rfl, rfl⟩
        · exact .inr ⟨k, by simp [hy]⟩
      have Hmx : mx.map ρ = none := by
        rcases optNat_spec hE hmx with ⟨rfl, _⟩ | ⟨y, m', k, _, h, _⟩
        · rfl
        · cases h
      have Hhi : (hi.map ρ = none ∧ hi'.getD n = n) ∨ ∃ k, hi.map ρ = some (.int k (hi'.getD n : Nat)) := by
        rcases optNat_spec hE hhi with ⟨rfl, rfl⟩ | ⟨y, m, k, rfl, rfl, hy⟩
        · exact .inl ⟨rfl, rfl⟩
        · exact .inr ⟨k, by simp [hy]⟩
      have hb : (Instr.sliceBounds false n n (lo.map ρ) (hi.map ρ) (mx.map ρ)).run cfg.P w = .ok (lo'.getD 0, hi'.getD n, n) w := by
        unfold Instr.sliceBounds
        rw [Hmx]
        rcases Hlo with ⟨hl, hl'⟩ | ⟨kl, hl⟩ <;> rcases Hhi with ⟨hh, hh'⟩ | ⟨kh, hh⟩ <;> rw [hl, hh]
        · simp [hl', hh']
        · simp [run_bound h2, hl']
        · simp [hh', hh' ▸ h1, run_bound]
        · simp [run_bound h1, run_bound h2]
      refine ⟨.slice (some ⟨L.b, L.base + idx * L.s + (off + lo'.getD 0), none⟩) (hi'.getD n - lo'.getD 0) (n - lo'.getD 0), ?_, by simp only [V]; exact ⟨L, _, hL, rfl⟩⟩
      rw [hxx]
      have hne : ¬ n = lo'.getD 0 := by omega
      simp [Instr.sliceAt, run_underlying hu, Instr.sureAddr, hb, run_sizeOf hsz, hne, Addr.add_mid, Nat.add_assoc]
    · cases h
  · cases h
end
end Go.Proofs.YthabndifdgafbaaGreatDoor.RV
end
section
set_option linter.constructorNameAsVariable false
namespace Go.Proofs.YthabndifdgafbaaGreatDoor.RV
open Go.RowKit (Below)
def RowR (w : World) (O : Nat → Prop) (ι : Iota) (s : Nat) (cells : Array Value) (l : List PV) : Prop :=
  ∀ m p, l[m]? = some p → ∃ y, V w O ι p y ∧ y.cells.size = s ∧ ∀ j z, y.cells.toList[j]? = some z → cells[m * s + j]? = some z
theorem RowR.ve {w w' : World} {O O' : Nat → Prop} {ι ι' : Iota} {s b : Nat} {cells : Array Value} {l : List PV} {t : TypeId} {fz : Nat × Nat} (h : RowR w O ι s cells l) (he : Ext w O ι w' O' ι')
    (hb : w'.heap[b]? = some (.cells cells t fz)) : VE w' O' ι' s b 0 l :=
  VE.of_get fun i p hp => by
    obtain ⟨y, hy, hs, hc⟩ := h i p hp
    exact ⟨y, V.mono he _ _ hy, hs, cells, t, fz, hb, fun j z hz => by rw [Nat.zero_add]; exact hc j z hz⟩
section
variable {cfg : Cfg} {env : Env} {w : World} {O : Nat → Prop} {ι : Iota} {ρ : Operand → Value}
theorem PartsR.map_fst {ps : List (Nat × PV)} {xs : List (Nat × Value)} (h : PartsR w O ι ps xs) : xs.map (·.1) = ps.map (·.1) := by
  induction h with
  | nil => rfl
  | cons _ _ ih => simp [ih]
theorem PartsR.vals {ps : List (Nat × PV)} {xs : List (Nat × Value)} (h : PartsR w O ι ps xs) : VL w O ι (ps.map (·.2)) (xs.map (·.2)) := by
  induction h with
  | nil => exact VL.nil_iff.2 rfl
  | cons hv _ ih => exact VL.cons hv ih
theorem fillRow (sz : Nat) : ∀ (xs : List (Nat × Value)) (k : Nat) (cells : Array Value), xs.map (·.1) = List.range' k xs.length → (∀ x ∈ xs, x.2.cells.size = sz) → (k + xs.length) * sz ≤ cells.size →
    ∃ cells', Instr.fill (fun i => some (i * sz, sz)) cells xs = some cells' ∧ cells'.size = cells.size ∧ (∀ j, j < k * sz → cells'[j]? = cells[j]?) ∧
      ∀ m v, (xs.map (·.2))[m]? = some v → ∀ j y, v.cells.toList[j]? = some y → cells'[(k + m) * sz + j]? = some y
  | [], k, cells, _, _, _ => ⟨cells, rfl, rfl, fun _ _ => rfl, fun m v h => by simp at h⟩
  | (i, v) :: xs, k, cells, hi, hs, hc => by
    simp only [List.map_cons, List.length_cons, List.range'_succ, List.cons.injEq] at hi
    obtain ⟨rfl, hi⟩ := hi
    have hv : v.cells.size = sz := hs (i, v) (by simp)
    simp only [List.length_cons] at hc
    have hmul : (i + (xs.length + 1)) * sz = i * sz + sz + xs.length * sz := by rw [Nat.add_mul, Nat.add_mul]; omega
    have hmul2 : (i + 1 + xs.length) * sz = i * sz + sz + xs.length * sz := by rw [Nat.add_mul, Nat.add_mul]; omega
    have hmul3 : (i + 1) * sz = i * sz + sz := by rw [Nat.add_mul]; omega
    have hfold := list_foldl_set (i * sz) v.cells.toList 0 cells (by simp [hv]; omega)
    generalize hcc : (v.cells.zipIdx.foldl (fun cs (x : Value × Nat) => cs.setIfInBounds (i * sz + x.2) x.1) cells) = c1
    have hz : c1.toList = cells.toList.take (i * sz) ++ (v.cells.toList ++ cells.toList.drop (i * sz + v.cells.toList.length)) := by
      rw [← hcc, ← Array.foldl_toList, Array.toList_zipIdx]
      simpa using hfold
    have hc1 : c1.size = cells.size := by
      rw [← Array.length_toList, hz]
      simp [hv]
      omega
    obtain ⟨c', hf, hsz, hlow, hget⟩ := fillRow sz xs (i + 1) c1 hi (fun x hx => hs x (by simp [hx])) (by omega)
    refine ⟨c', ?_, hsz.trans hc1, fun j hj => ?_, fun m u hu j y hy => ?_⟩
    · unfold Instr.fill
      dsimp only
      rw [if_neg (by simp [hv]; omega)]
      rw [← hf, ← hcc]
    · rw [hlow j (by omega), ← Array.getElem?_toList, hz, List.getElem?_append_left (by simp; omega), List.getElem?_take, if_pos hj, Array.getElem?_toList]
    · cases m with
      | zero =>
        simp at hu
        subst hu
        have hjl : j < sz := by have := (List.getElem?_eq_some_iff.1 hy).1; simpa [hv] using this
        rw [hlow _ (by simp; omega), ← Array.getElem?_toList, hz, List.getElem?_append_right (by simp; omega)]
        rw [List.getElem?_append_left (by simp [hv]; omega)]
        rw [← hy]
        congr 1
        simp
        omega
      | succ m =>
        have := hget m u (by simpa using hu) j y hy
        rw [show i + (m + 1) = i + 1 + m by omega]
        exact this
theorem sizesAre_spec {s : Nat} : ∀ {l : List PV}, sizesAre s l = true → ∀ p ∈ l, p.cells.length = s
  | [], _, _, h => by cases h
  | q :: l, h, p, hp => by
    simp only [sizesAre, Bool.and_eq_true, decide_eq_true_eq] at h
    rcases List.mem_cons.1 hp with rfl | hp
    · exact h.1
    · exact sizesAre_spec h.2 p hp
theorem buildSliceA_sound {t : TypeId} {len : Nat} {parts : Array (Nat × Operand)} {s : Nat} {l : List PV} (hE : ∀ x q, evO cfg env x = some q → V w O ι q (ρ x)) (h : buildSliceA cfg env t len parts.toList = some (s, l)) :
    ∃ cells elem, (Instr.buildSlice t len (parts.map fun (i, x) => (i, ρ x))).run cfg.P w = .ok (.slice (some ⟨w.heap.size, 0, none⟩) len len) (w.alloc (.cells cells elem)) ∧
      l.length = len ∧ len * s ≤ cells.size ∧ RowR w O ι s cells l := by
  unfold buildSliceA at h
  split at h
  · rename_i elem hu
    split at h
    · rename_i s' z ps hs hz hps
      split at h
      · rename_i l' hl'
        split at h <;> cases h
        rename_i hc
        obtain ⟨h1, h2, h3, h4⟩ := hc
        unfold partsInOrder at hl'
        split at hl' <;> cases hl'
        rename_i hord
        have hPR := evParts_sound hE hps
        obtain ⟨i, v, hi, hv, hzv, hV⟩ := zeroO_spec hz
        have hvs : v.cells.size = s := by rw [← h2, ← (hV w O ι).cells.length]; simp
        have hlen : ps.length = len := by have := congrArg List.length hord; simpa using this
        have hxl : (parts.toList.map fun (i, x) => (i, ρ x)).length = len := by rw [← hlen]; have := congrArg List.length hPR.map_fst; simpa using this
        have hsz : ∀ x ∈ (parts.toList.map fun (i, x) => (i, ρ x)), x.2.cells.size = s := fun x hx => by
          obtain ⟨m, hm⟩ := List.mem_iff_getElem?.1 hx
          have hv2 := hPR.vals
          have hml : m < (ps.map (·.2)).length := by
            have := (List.getElem?_eq_some_iff.1 hm).1
            simpa [hlen, ← hxl] using this
          obtain ⟨x', hx', hVx⟩ := hv2.get m _ (List.getElem?_eq_getElem hml)
          rw [List.getElem?_map, hm] at hx'
          cases hx'
          have := hVx.cells.length
          rw [Array.length_toList] at this
          rw [this]
          exact sizesAre_spec h1 _ (List.getElem_mem hml)
        obtain ⟨cells', hf, hcs, _, hget⟩ := fillRow s (parts.toList.map fun (i, x) => (i, ρ x)) 0 ((Array.range (len * s)).map (v.cells[· % v.cells.size]!)) (by rw [hPR.map_fst, hord, hxl, List.range_eq_range']) hsz (by simp [hxl])
        refine ⟨cells', elem, ?_, by simp [hlen], by simp [hcs], ?_⟩
        · have hcells : ((Array.range (len * s)).map ((if len * s = 0 then #[] else v.cells)[· % (if len * s = 0 then #[] else v.cells).size]!)) = (Array.range (len * s)).map (v.cells[· % v.cells.size]!) := by
            by_cases h0 : len * s = 0
            · rw [h0]; simp
            · rw [if_neg h0]
          unfold Instr.buildSlice
          rw [Sem.run_bind, run_underlying hu w, Result.andThen_ok]
          simp only [Sem.run_bind, run_sizeOf hs, Result.andThen_ok]
          have hle : ¬ len * s > 2 ^ 24 := by
            have : (2 : Nat) ^ 20 ≤ 2 ^ 24 := by decide
            omega
          by_cases h0 : len * s = 0
          · rw [if_neg hle]
            simp only [h0, if_true, Sem.run_pure, Result.andThen_ok, Sem.run_bind] at hcells ⊢
            rw [Array.toList_map]
            simp only [h0] at hf
            rw [hcells, hf]
            simp [newRow]
          · rw [if_neg hle]
            simp only [h0, if_false, Sem.run_pure, Result.andThen_ok, Sem.run_bind, run_zeroValue hi hv] at hcells ⊢
            rw [Array.toList_map, hf]
            simp [newRow]
        · intro m p hp
          obtain ⟨y, hy, hVy⟩ := hPR.vals.get m p hp
          refine ⟨y, hVy, ?_, fun j z hz => by have := hget m y hy j z hz; rwa [Nat.zero_add] at this⟩
          obtain ⟨x, hx⟩ : ∃ x ∈ (parts.toList.map fun (i, x) => (i, ρ x)), x.2 = y := by
            obtain ⟨x, hx, hx2⟩ := List.mem_map.1 (List.mem_of_getElem? hy)
            exact ⟨x, hx, hx2⟩
          rw [← hx.2]
          exact hsz x hx.1
      · cases h
    · cases h
  · cases h
theorem makeSliceA_sound {t : TypeId} {le c : Operand} {s : Nat} {l : List PV} (hE : ∀ x q, evO cfg env x = some q → V w O ι q (ρ x)) (h : makeSliceA cfg env t le c = some (s, l)) :
    ∃ cells elem, (Instr.makeSlice t (ρ le) (ρ c)).run cfg.P w = .ok (.slice (some ⟨w.heap.size, 0, none⟩) l.length l.length) (w.alloc (.cells cells elem)) ∧
      l.length * s ≤ cells.size ∧ ∀ ι', RowR w O ι' s cells l := by
  unfold makeSliceA at h
  split at h
  · rename_i elem hu
    split at h
    · rename_i s' z n c' hs hz hn hc
      split at h
      · rename_i i hi
        split at h <;> cases h
        rename_i hcond
        obtain ⟨rfl, h2, h3, h4, h5⟩ := hcond
        obtain ⟨i', v, hi', hv, hzv, hV⟩ := zeroO_spec hz
        rw [hi] at hi'
        cases hi'
        obtain ⟨i'', hi'', hsz⟩ := szO_spec hs
        rw [hi] at hi''
        cases hi''
        obtain ⟨kl, hl⟩ := nat_operand hE hn
        obtain ⟨kc, hcc⟩ := nat_operand hE hc
        have hvs : v.cells.size = s := by rw [← h2, ← (hV w O ι).cells.length]; simp
        have hb : (i.bytes : Int) * (n : Int) ≤ 281474976710656 := by
          have : i.bytes * n ≤ 281474976710656 := Nat.le_trans h4 (by decide)
          have h6 : ((i.bytes * n : Nat) : Int) ≤ 281474976710656 := by omega
          rwa [Int.natCast_mul] at h6
        have h63 : (n : Int) ≤ 9223372036854775807 := by
          have : (2 : Nat) ^ 40 ≤ 9223372036854775807 := by decide
          omega
        have hr := run_make (P := cfg.P) w t elem i v hu hi hv kl kc n n (by omega) (Int.le_refl _) hb h63
        simp only [Int.toNat_natCast] at hr
        refine ⟨madeCells v.cells (n * i.size), elem, by rw [hl, hcc, hr]; simp, ?_, ?_⟩
        · simp [size_madeCells, hsz]
        · intro ι' m p hp
          rw [List.getElem?_replicate] at hp
          split at hp <;> cases hp
          rename_i hm
          refine ⟨v, hV w O ι', hvs, fun j y hy => ?_⟩
          have hj : j < s := by have := (List.getElem?_eq_some_iff.1 hy).1; simpa [hvs] using this
          have hlt : m * s + j < n * i.size := by
            rw [hsz]
            have : (m + 1) * s ≤ n * s := Nat.mul_le_mul_right _ hm
            rw [Nat.add_mul] at this
            omega
          have hmod : (m * s + j) % v.cells.size = j := by rw [hvs, Nat.mul_comm, Nat.mul_add_mod, Nat.mod_eq_of_lt hj]
          have hy' : v.cells[j]? = some y := by simpa using hy
          simp only [madeCells, Array.getElem?_map, Array.getElem?_range, hlt, if_true, Option.map_some, Option.some.injEq]
          rw [hmod]
          rw [getElem!_pos v.cells j (by omega)]
          exact (Array.getElem?_eq_some_iff.1 hy').2
      · cases h
    · cases h
  · cases h
end
end Go.Proofs.YthabndifdgafbaaGreatDoor.RV
end
section
set_option linter.constructorNameAsVariable false
namespace Go.Proofs.YthabndifdgafbaaGreatDoor.RV
open Go.RowKit (Below)
theorem run_stringToBytes (P : Program) (e : TypeId) (s : ByteArray) (w : World) :
    ∃ cap w', (Conv.stringToBytes e s).run P w = .ok (.slice (some ⟨w.heap.size, 0, none⟩) s.size cap) w' ∧ s.size ≤ cap ∧ Grown w w' ∧
      ∃ cs fz, w'.heap[w.heap.size]? = some (.cells cs e fz) ∧ cs.size = cap ∧ (∀ i, fz.1 ≤ i → i < fz.2 → cap ≤ i) ∧ ∀ (i : Nat) (b : UInt8), s.data.toList[i]? = some b → cs[i]? = some (Value.int .u8 b.toNat) := by
  generalize hcap : (Question.appendCap s.size 0 e).cut (w.tape w.drawn (.appendCap s.size 0 e)) = cap
  have hle : s.size ≤ cap := by rw [← hcap]; simp [Question.cut]
  generalize hcs : (s.data.map (fun b => Value.int .u8 b.toNat) ++ Array.replicate (cap - s.size) (.int .u8 0) : Array Value) = cs
  have hsz : cs.size = cap := by
    rw [← hcs]
    simp
    have : s.data.size = s.size := rfl
    omega
  let w1 : World := { w with drawn := w.drawn + 1 }
  let w2 : World := w1.alloc (.cells cs e)
  let w3 : World := w2.freeze ⟨w.heap.size, cap, none⟩ 1
  have h2 : w2.heap[w.heap.size]? = some (.cells cs e (0, 0)) := heap_alloc_new w1 _
  have h3 : w3.heap[w.heap.size]? = some (.cells cs e (cap, cap + 1)) := by
    simp only [w3, World.freeze]
    simp [Array.getElem?_modify, h2]
  refine ⟨cap, w3, ?_, hle, ⟨rfl, rfl, rfl, ?_, ?_⟩, cs, (cap, cap + 1), h3, hsz, fun i h1 _ => h1, ?_⟩
  · have hf : (Question.appendCap s.size 0 e).forced = false := rfl
    simp only [Conv.stringToBytes, choose, Sem.run_bind, Sem.run, hf, Bool.false_eq_true, if_false, hcap, Result.andThen_ok, newRow, newObj, hcs, markStringish, shape, Sem.run_pure]
    have hsh : World.shape? { w with drawn := w.drawn + 1, heap := w.heap.push (.cells cs e) } w.heap.size = some (e, cap) := by
      simp [World.shape?, hsz]
    simp only [hsh, freeze, Sem.run, Result.andThen_ok]
    rfl
  · simp only [w3, World.freeze]
    simp
    exact Nat.le_of_lt (by show w.heap.size < (w.heap.push _).size; simp)
  · intro b hb
    simp only [w3, World.freeze]
    have hne : ¬ w.heap.size = b := by omega
    simp [Array.getElem?_modify, hne]
    exact heap_alloc_old w1 _ b hb
  · intro i b hb
    rw [← hcs]
    have hi : i < s.data.size := by have := (List.getElem?_eq_some_iff.1 hb).1; simpa using this
    rw [Array.getElem?_append_left (by simpa using hi)]
    have : s.data[i]? = some b := by simpa using hb
    simp [this]
section
variable {cfg : Cfg} {env : Env} {w : World} {O : Nat → Prop} {ι : Iota} {ρ : Operand → Value}
theorem run_eq_nil1 {P : Program} {t e : TypeId} (hu : P.underlying t = some (.slice e)) (w : World) (d : Nat) (a : Addr) (n c n' c' : Nat) : (Op.equalIn (d + 1) t (.slice (some a) n c) (.slice none n' c')).run P w = .ok false w := by
  simp [Op.equalIn, run_underlying hu]
theorem run_eq_nil2 {P : Program} {t e : TypeId} (hu : P.underlying t = some (.slice e)) (w : World) (d : Nat) (a : Addr) (n c n' c' : Nat) : (Op.equalIn (d + 1) t (.slice none n' c') (.slice (some a) n c)).run P w = .ok false w := by
  simp [Op.equalIn, run_underlying hu]
theorem nilCmp_sound {op : BinOp} {t : TypeId} {x y : Operand} {p : PV} (hE : ∀ x q, evO cfg env x = some q → V w O ι q (ρ x)) (h : nilCmp cfg env op t x y = some p) :
    ∃ v, (do eqGuard op t x y (ρ x) (ρ y); binOp op t (ρ x) (ρ y)).run cfg.P w = .ok v w ∧ V w O ι p v := by
  unfold nilCmp at h
  split at h
  · rename_i q r hst hx hy
    split at h
    · rename_i hc
      have hnn : ∀ {q : PV} {v : Value}, V w O ι q v → notNil q = true → ∃ a n c, v = .slice (some a) n c := by
        intro q v hv hn
        cases q with
        | own id ver s off len cap => obtain ⟨L, c, _, _, hv, _⟩ := V.own_iff.1 hv; exact ⟨_, _, _, hv⟩
        | dsl s l cap =>
          cases l with
          | nil => simp [notNil] at hn
          | cons a l =>
            obtain ⟨ad, c, hv, _, _, hr⟩ := V.dsl_iff.1 hv
            rcases hr with hr | ⟨b, o, rfl, _⟩
            · cases hr
            · exact ⟨_, _, _, hv⟩
        | _ => simp [notNil] at hn
      have hnl : ∀ {q : PV} {v : Value}, V w O ι q v → isNilS q = true → ∃ n c, v = .slice none n c := by
        intro q v hv hn
        unfold isNilS at hn
        split at hn
        · exact ⟨_, _, V.lit_iff.1 hv⟩
        · cases hn
      have hu : ∃ e, cfg.P.underlying t = some (.slice e) := by
        unfold isSliceT at hst
        split at hst
        · rename_i e he; exact ⟨e, he⟩
        · cases hst
      obtain ⟨e, hu⟩ := hu
      simp only [Bool.or_eq_true, Bool.and_eq_true] at hc
      have hrun : (eqGuard op t x y (ρ x) (ρ y)).run cfg.P w = .ok () w ∧ (Op.equal t (ρ x) (ρ y)).run cfg.P w = .ok false w ∧ (∀ k a k' b, ¬ (ρ x = .int k a ∧ ρ y = .int k' b)) ∧ ∃ a b : Option Addr × Nat × Nat, ρ x = .slice a.1 a.2.1 a.2.2 ∧ ρ y = .slice b.1 b.2.1 b.2.2 := by
        rcases hc with ⟨h1, h2⟩ | ⟨h1, h2⟩
        · obtain ⟨a, n, c, hv⟩ := hnn (hE x _ hx) h1
          obtain ⟨n', c', hv'⟩ := hnl (hE y _ hy) h2
          rw [hv, hv']
          refine ⟨?_, ?_, by simp, (some a, n, c), (none, n', c'), rfl, rfl⟩
          · simp only [eqGuard]; split <;> rfl
          · exact run_eq_nil1 hu w 9999 a n c n' c'
        · obtain ⟨a, n, c, hv⟩ := hnn (hE y _ hy) h2
          obtain ⟨n', c', hv'⟩ := hnl (hE x _ hx) h1
          rw [hv, hv']
          refine ⟨?_, ?_, by simp, (none, n', c'), (some a, n, c), rfl, rfl⟩
          · simp only [eqGuard]; split <;> rfl
          · exact run_eq_nil2 hu w 9999 a n c n' c'
      obtain ⟨hg, heq, _, a, b, hva, hvb⟩ := hrun
      split at h <;> cases h
      · refine ⟨.bool false, ?_, V.lit_iff.2 rfl⟩
        simp only [Sem.run_bind, hg, Result.andThen_ok]
        rw [hva, hvb] at heq ⊢
        simp [binOp, heq]
      · refine ⟨.bool true, ?_, V.lit_iff.2 rfl⟩
        simp only [Sem.run_bind, hg, Result.andThen_ok]
        rw [hva, hvb] at heq ⊢
        simp [binOp, heq]
    · cases h
  · cases h
theorem isSliceT_spec {P : Program} {t : TypeId} (h : isSliceT P t = true) : ∃ e, P.underlying t = some (.slice e) := by
  unfold isSliceT at h
  split at h
  · rename_i e he; exact ⟨e, he⟩
  · cases h
theorem run_v {P : Program} {s : Sem Value} {x : Value} {w w' : World} (h : s.run P w = .ok x w') : (do pure (.value (← s)) : Sem Next).run P w = .ok (.value x) w' := by
  simp [h]
theorem load_at {P : Program} {O : Nat → Prop} {t : TypeId} {b o off : Nat} {l : List PV} {ys : List Value} {p : PV} (hc : CellsAt w b o ys) (hl : VL w O ι l ys) (h : partO P t l off = some p) :
    ∃ x, (loadVar t ⟨b, o + off, none⟩).run P w = .ok x w ∧ V w O ι p x := by
  obtain ⟨cs, et, fz, hb, hget⟩ := hc
  have cell : ∀ j y, ys[off + j]? = some y → w.cell? ((⟨b, o + off, none⟩ : Addr).add j) = some y := fun j y hy => by
    rw [Addr.add_mid, cell_of_row w b _ cs et fz hb, Nat.add_assoc]
    exact hget _ _ hy
  unfold partO at h
  split at h
  · rename_i n ha hn
    split at h <;> cases h
    rename_i hle
    have hlen : ((ys.drop off).take n).length = n := by have := hl.length; simp; omega
    have hr := run_loadCells_list (P := P) w ⟨b, o + off, none⟩ ((ys.drop off).take n) (fun j v hv => by
      rw [List.getElem?_take] at hv
      split at hv
      · rw [List.getElem?_drop] at hv; exact cell j v hv
      · cases hv)
    rw [hlen] at hr
    refine ⟨.agg ((ys.drop off).take n).toArray, by simp [loadVar, run_isAgg ha, run_sizeOf hn, hr], V.agg_iff.2 ⟨_, rfl, ?_⟩⟩
    simpa using (hl.drop off).take n
  · rename_i n ha hn
    obtain ⟨x, hx, hv⟩ := hl.get _ _ h
    have := cell 0 x (by simpa using hx)
    simp only [Addr.add_mid, Nat.add_zero] at this
    exact ⟨x, by simp [loadVar, run_isAgg ha, this], hv⟩
  · cases h
theorem aopPure_sound {o : Oper} {p : PV} (hnd : ∀ c, o.op ≠ .defer c) (hO : ∀ b, O b → b < w.heap.size) (hE : ∀ x q, evO cfg env x = some q → V w O ι q (ρ x)) (h : aopPure cfg env o = some p) :
    Yields' cfg.P w O ι p ((execOp ρ o).run cfg.P w) := by
  have hlit := fun h => litRun_sound (o := o) (p := p) hE h
  obtain ⟨dst, op, ty, pos, after, guard⟩ := o
  cases op
  case defer c => exact absurd rfl (hnd c)
  case move x => simp only [aopPure] at h; exact .here rfl (hE x p h)
  case assign x => simp only [aopPure] at h; exact .here rfl (hE x p h)
  case pick c a b =>
    simp only [aopPure] at h
    split at h
    · rename_i t ht
      split at h
      · rename_i q r hq hr
        have hc := V.lit_iff.1 (hE c _ ht)
        cases h
        cases t
        · exact .here (x := ρ b) (by simp [execOp, hc, asBool]) (hE b _ hr)
        · exact .here (x := ρ a) (by simp [execOp, hc, asBool]) (hE a _ hq)
      · cases h
    · cases h
  case box t x =>
    simp only [aopPure] at h
    split at h
    · rename_i q hq
      split at h <;> cases h
      rename_i hd
      have hv := hE x q hq
      have hg := Grown.alloc w (.cells (ρ x).cells t)
      refine ⟨.pointer (some ⟨w.heap.size, 0, none⟩), w.alloc (.cells (ρ x).cells t), rfl, hg, V.dptr_iff.2 ⟨w.heap.size, 0, (ρ x).cells.toList, rfl, fun hh => absurd (hO _ hh) (by omega), ?_, ?_⟩⟩
      · exact ⟨_, _, _, heap_alloc_new w _, fun i y hy => by rw [Nat.zero_add]; simpa using hy⟩
      · exact VL.mono (hg.ext (ι := iota0)) _ _ (deepB_sound q hv hd).cells
    · cases h
  case build t parts =>
    simp only [aopPure] at h
    obtain ⟨x, hr, hv⟩ := buildA_sound hE h
    exact .here (run_v hr) hv
  case buildSlice t len parts =>
    simp only [aopPure] at h
    split at h
    · rename_i s l hs
      split at h <;> cases h
      rename_i hd
      obtain ⟨cells, elem, hr, hl, hc, hrow⟩ := buildSliceA_sound (w := w) (O := O) (ι := ι) hE hs
      have hg := Grown.alloc w (.cells cells elem)
      refine ⟨_, _, run_v hr, hg, V.dsl_iff.2 ⟨_, _, by rw [hl], by omega, by simp, ?_⟩⟩
      refine .inr ⟨_, _, rfl, fun hh => absurd (hO _ hh) (by omega), RowR.ve (ι := iota0) (w := w) (O := O) ?_ hg.ext (heap_alloc_new w _)⟩
      intro m q hq
      obtain ⟨y, hy, r⟩ := hrow m q hq
      refine ⟨y, deepB_sound q hy ?_, r⟩
      have : ∀ (l : List PV), deepL l = true → ∀ q ∈ l, deepB q = true := by
        intro l
        induction l with
        | nil => intro _ q h; cases h
        | cons a l ih =>
          intro h q hq
          simp only [deepL, Bool.and_eq_true] at h
          rcases List.mem_cons.1 hq with rfl | hq
          · exact h.1
          · exact ih h.2 q hq
      exact this l hd q (List.mem_of_getElem? hq)
    · cases h
  case makeSlice t l c =>
    simp only [aopPure] at h
    split at h <;> cases h
    rename_i s l hs
    obtain ⟨cells, elem, hr, hc, hrow⟩ := makeSliceA_sound (w := w) (O := O) (ι := ι) (ρ := ρ) hE hs
    have hg := Grown.alloc w (.cells cells elem)
    refine ⟨_, _, run_v hr, hg, V.dsl_iff.2 ⟨_, _, rfl, by omega, by simp, ?_⟩⟩
    exact .inr ⟨_, _, rfl, fun hh => absurd (hO _ hh) (by omega), RowR.ve (ι := iota0) (w := w) (O := O) (hrow iota0) hg.ext (heap_alloc_new w _)⟩
  case field t x i =>
    simp only [aopPure] at h
    split at h <;> cases h
    rename_i q hq
    obtain ⟨y, hr, hv⟩ := fieldA_sound hE hq
    exact .here (run_v hr) hv
  case extract t i =>
    simp only [aopPure] at h
    split at h
    · rename_i l hl
      obtain ⟨xs, hx, hvl⟩ := V.tup_iff.1 (hE t _ hl)
      obtain ⟨y, hy, hv⟩ := hvl.get _ _ h
      refine .here (x := y) ?_ hv
      have hy' : xs[i]? = some y := by simpa using hy
      simp [execOp, hx, Instr.extract, hy']
    · cases h
  case fieldAddr t x i =>
    simp only [aopPure] at h
    obtain ⟨y, hr, hv⟩ := fieldAddrA_sound hE h
    exact .here (run_v hr) hv
  case indexAddr t x i =>
    simp only [aopPure] at h
    obtain ⟨y, hr, hv⟩ := indexAddrA_sound hE h
    exact .here (run_v hr) hv
  case slice t x lo hi mx =>
    simp only [aopPure] at h
    split at h
    · cases h
      rename_i hs
      obtain ⟨y, hr, hv⟩ := sliceA_sound hE hs
      exact .here (run_v hr) hv
    · exact hlit h
  case makeFunc fn first captured =>
    simp only [aopPure] at h
    split at h
    · rename_i f a l ha hl
      cases h
      refine .here (x := .func (.func f) (first.map ρ) (captured.map ρ)) rfl (V.clo_iff.2 ⟨_, _, rfl, ?_, ?_⟩)
      · simpa using evOs_sound hE ha
      · simpa using evOs_sound hE hl
    · cases h
  case nilCheck x =>
    simp only [aopPure] at h
    split at h
    · rename_i id ver idx off hx
      cases h
      have hv := hE x _ hx
      obtain ⟨L, _, hxx⟩ := V.ptr_iff.1 hv
      exact .here (x := ρ x) (by simp only [execOp, hxx]; rfl) hv
    · rename_i l off hx
      cases h
      have hv := hE x _ hx
      obtain ⟨b, o, ys, hxx, _⟩ := V.dptr_iff.1 hv
      exact .here (x := ρ x) (by simp only [execOp, hxx]; rfl) hv
    · rename_i f a l hx
      cases h
      have hv := hE x _ hx
      obtain ⟨ys, xs, hxx, _⟩ := V.clo_iff.1 hv
      exact .here (x := ρ x) (by simp only [execOp, hxx]; rfl) hv
    · cases h
  case convert src dst x =>
    simp only [aopPure] at h
    split at h
    · split at h
      · rename_i e s h1 h2 h3
        split at h <;> cases h
        rename_i he
        have hx := V.lit_iff.1 (hE x _ h3)
        obtain ⟨cap, w', hr, hle, hg, cs, fz, hb, hcs, hfz, hget⟩ := run_stringToBytes cfg.P e s w
        refine ⟨.slice (some ⟨w.heap.size, 0, none⟩) s.size cap, w', run_v (s := convert src dst (ρ x)) ?_, hg, V.dsl_iff.2 ⟨some ⟨w.heap.size, 0, none⟩, cap, ?_, ?_, ?_, ?_⟩⟩
        · simp only [convert, Sem.run_bind, run_underlying h1, run_underlying h2, Result.andThen_ok, hx, run_underlying he]
          exact hr
        · simp [bytesP]
        · simp only [bytesP, List.length_map, Array.length_toList]; exact hle
        · intro k hk; cases hk
        · refine .inr ⟨_, _, rfl, fun hh => absurd (hO _ hh) (by omega), VE.of_get fun i q hq => ?_⟩
          simp only [bytesP, List.getElem?_map, Option.map_eq_some_iff] at hq
          obtain ⟨b, hb', rfl⟩ := hq
          refine ⟨.int .u8 b.toNat, V.lit_iff.2 rfl, rfl, cs, e, fz, hb, fun j y hy => ?_⟩
          have : j = 0 := by have := (List.getElem?_eq_some_iff.1 hy).1; simpa [Value.cells] using this
          subst this
          simp [Value.cells] at hy
          rw [← hy]
          simpa using hget i b hb'
      · cases h
    · exact hlit h
  case binOp op t x y yt =>
    simp only [aopPure] at h
    split at h
    · cases h
      rename_i hl
      exact hlit hl
    · obtain ⟨v, hr, hv⟩ := nilCmp_sound hE h
      exact .here (run_v hr) hv
  case call c =>
    simp only [aopPure] at h
    obtain ⟨callee, args, argTypes⟩ := c
    cases callee
    case value f => cases h
    case invoke r m => cases h
    case builtin b =>
      cases b
      case len =>
        simp only at h
        split at h
        · rename_i x hargs
          have hargs' : args = #[x] := by simpa using congrArg List.toArray hargs
          subst hargs'
          split at h
          · rename_i id ver s off len cap t hx ht
            split at h <;> cases h
            rename_i hst
            obtain ⟨e, hu⟩ := isSliceT_spec hst
            obtain ⟨L, c, _, _, hxx, _⟩ := V.own_iff.1 (hE x _ hx)
            exact .here (x := .int .i64 len) (by simp [execOp, resolve, invoke, builtin, Builtin.len_, ht, run_underlying hu, hxx, goInt]) (V.lit_iff.2 rfl)
          · rename_i s l cap t hx ht
            split at h <;> cases h
            rename_i hst
            obtain ⟨e, hu⟩ := isSliceT_spec hst
            obtain ⟨a, c, hxx, _⟩ := V.dsl_iff.1 (hE x _ hx)
            exact .here (x := .int .i64 l.length) (by simp [execOp, resolve, invoke, builtin, Builtin.len_, ht, run_underlying hu, hxx, goInt]) (V.lit_iff.2 rfl)
          · exact hlit h
          · cases h
        · cases h
      case cap =>
        simp only at h
        split at h
        · rename_i x hargs
          have hargs' : args = #[x] := by simpa using congrArg List.toArray hargs
          subst hargs'
          split at h
          · rename_i id ver s off len k t hx ht
            split at h <;> cases h
            rename_i hst
            obtain ⟨e, hu⟩ := isSliceT_spec hst
            obtain ⟨L, c, _, _, hxx, _, _, hk⟩ := V.own_iff.1 (hE x _ hx)
            obtain rfl := hk k rfl
            exact .here (x := .int .i64 c) (by simp [execOp, resolve, invoke, builtin, Builtin.cap_, ht, run_underlying hu, hxx, goInt]) (V.lit_iff.2 rfl)
          · rename_i s l k t hx ht
            split at h <;> cases h
            rename_i hst
            obtain ⟨e, hu⟩ := isSliceT_spec hst
            obtain ⟨a, c, hxx, _, hk, _⟩ := V.dsl_iff.1 (hE x _ hx)
            obtain rfl := hk k rfl
            exact .here (x := .int .i64 c) (by simp [execOp, resolve, invoke, builtin, Builtin.cap_, ht, run_underlying hu, hxx, goInt]) (V.lit_iff.2 rfl)
          · exact hlit h
          · cases h
        · cases h
      case min => exact hlit h
      case max => exact hlit h
      all_goals cases h
  case alloc t => cases h
  case load t x =>
    simp only [aopPure] at h
    split at h
    · rename_i l off hx
      obtain ⟨b, o, ys, hxx, _, hc, hl⟩ := V.dptr_iff.1 (hE x _ hx)
      obtain ⟨z, hz, hv⟩ := load_at hc hl h
      refine .here (run_v (s := Instr.loadAt t (ρ x)) ?_) hv.lift
      rw [hxx]
      simp [Instr.loadAt, Instr.sureAddr, hz]
    · cases h
  case store t a x => cases h
  all_goals exact hlit h
end
end Go.Proofs.YthabndifdgafbaaGreatDoor.RV
end
section
set_option linter.constructorNameAsVariable false
namespace Go.Proofs.YthabndifdgafbaaGreatDoor.RV
open Go.RowKit (Below)
section
variable {cfg : Cfg} {O0 : Nat → Prop} {ι : Iota} {H : Heap} {w : World} {env : Env} {ρ : Operand → Value}
theorem obj_spec {id ver : Nat} {o : HObj} (h : obj H id ver = some o) : H.get id = some (ver, o) := by
  unfold obj at h
  split at h
  · rename_i v o' hg
    split at h <;> cases h
    rename_i hv
    rw [hg, hv]
  · cases h
theorem loadA_sound {t : TypeId} {p q : PV} {x : Value} (hI : Inv cfg O0 ι H w) (hx : V w (Owns O0 ι H) ι q x) (h : loadA cfg.P H t q = some p) :
    ∃ a y, x = .pointer (some a) ∧ (loadVar t a).run cfg.P w = .ok y w ∧ V w (Owns O0 ι H) ι p y := by
  unfold loadA at h
  split at h
  · rename_i id ver idx off
    split at h
    · rename_i s l live ho
      split at h
      · rename_i e he
        obtain ⟨L, hL, hxx⟩ := V.ptr_iff.1 hx
        obtain ⟨L', hL', hs, _, _, hVE, _⟩ := hI.obj _ _ _ (obj_spec ho)
        rw [hL] at hL'
        cases hL'
        obtain ⟨y, hy, _, hc⟩ := hVE.get idx e he
        rw [← hs] at hc
        obtain ⟨z, hz, hv⟩ := load_at hc hy.cells h
        exact ⟨_, z, hxx, hz, hv⟩
      · cases h
    · cases h
  · rename_i l off
    obtain ⟨b, o, ys, hxx, _, hc, hl⟩ := V.dptr_iff.1 hx
    obtain ⟨z, hz, hv⟩ := load_at hc hl h
    exact ⟨_, z, hxx, hz, hv.lift⟩
  · cases h
theorem run_loadAt {P : Program} {t : TypeId} {a : Addr} {y : Value} (h : (loadVar t a).run P w = .ok y w) : (Instr.loadAt t (.pointer (some a))).run P w = .ok y w := by
  simp [Instr.loadAt, Instr.sureAddr, h]
theorem bytesOf_vals {O : Nat → Prop} : ∀ {l : List PV} {xs : List Value} {bs : List UInt8}, VL w O ι l xs → bytesOf l = some bs → ∃ ns : List Int, xs = ns.map (Value.int .u8) ∧ bs = ns.map (fun n => UInt8.ofNat n.toNat)
  | [], xs, bs, hl, h => by
    rw [VL.nil_iff] at hl
    simp only [bytesOf, Option.some.injEq] at h
    subst hl; subst h
    exact ⟨[], rfl, rfl⟩
  | p :: ps, xs, bs, hl, h => by
    obtain ⟨y, ys, rfl, hy, hs⟩ := VL.cons_iff.1 hl
    unfold bytesOf at h
    split at h
    · rename_i n
      split at h <;> cases h
      rename_i cs hcs
      obtain rfl := V.lit_iff.1 hy
      obtain ⟨ns, rfl, rfl⟩ := bytesOf_vals hs hcs
      exact ⟨n :: ns, rfl, rfl⟩
    · cases h
theorem foldl_push (f : Int → UInt8) : ∀ (ns : List Int) (acc : ByteArray), ns.foldl (fun r n => r.push (f n)) acc = ⟨(acc.data.toList ++ ns.map f).toArray⟩
  | [], acc => by simp
  | n :: ns, acc => by rw [List.foldl_cons, foldl_push f ns]; simp [ByteArray.push]
theorem cellsOf_VE1 {O : Nat → Prop} {b : Nat} : ∀ {l : List PV} {o : Nat} {bs : List UInt8}, VE w O ι 1 b o l → bytesOf l = some bs → ∃ ys, VL w O ι l ys ∧ (l = [] ∨ CellsAt w b o ys)
  | [], o, bs, _, _ => ⟨[], VL.nil_iff.2 rfl, .inl rfl⟩
  | p :: ps, o, bs, h, hb => by
    obtain ⟨⟨y, hy, hys, hc⟩, hs⟩ := VE.cons_iff.1 h
    unfold bytesOf at hb
    split at hb
    · rename_i n
      split at hb <;> cases hb
      rename_i cs hcs
      obtain rfl := V.lit_iff.1 hy
      obtain ⟨ys, hl, hr⟩ := cellsOf_VE1 hs hcs
      refine ⟨.int .u8 n :: ys, VL.cons hy hl, .inr ?_⟩
      obtain ⟨cs1, t, fz, hbk, hget⟩ := hc
      refine ⟨cs1, t, fz, hbk, fun i z hz => ?_⟩
      cases i with
      | zero => exact hget 0 z (by simpa [Value.cells] using hz)
      | succ i =>
        rcases hr with rfl | ⟨cs2, t2, fz2, hbk2, hget2⟩
        · rw [VL.nil_iff] at hl; subst hl; simp at hz
        · rw [hbk] at hbk2
          cases hbk2
          rw [show o + (i + 1) = o + 1 + i by omega]
          exact hget2 i z (by simpa using hz)
    · cases hb
theorem run_bytesToStringC {O : Nat → Prop} {P : Program} {l : List PV} {ys : List Value} {bs : List UInt8} {b o c : Nat} (hl : VL w O ι l ys) (hr : l = [] ∨ CellsAt w b o ys) (h : bytesOf l = some bs) :
    (Conv.bytesToString (.slice (some ⟨b, o, none⟩) l.length c)).run P w = .ok (.string ⟨bs.toArray⟩) w := by
  have hload : (loadCells ⟨b, o, none⟩ l.length).run P w = .ok ys.toArray w := by
    rw [← hl.length]
    refine run_loadCells_list (P := P) w _ ys (fun j v hv => ?_)
    rcases hr with rfl | ⟨cs, t, fz, hbk, hget⟩
    · rw [VL.nil_iff] at hl; subst hl; simp at hv
    · rw [Addr.add_mid, cell_of_row w b _ cs t fz hbk]
      exact hget j v hv
  obtain ⟨ns, rfl, rfl⟩ := bytesOf_vals hl h
  rw [Go.run_bytesToString w _ _ _ ns hload, foldl_push]
  rfl
theorem run_bytesToString {O : Nat → Prop} {P : Program} {l : List PV} {bs : List UInt8} {b o c : Nat} (hVE : VE w O ι 1 b o l) (h : bytesOf l = some bs) :
    (Conv.bytesToString (.slice (some ⟨b, o, none⟩) l.length c)).run P w = .ok (.string ⟨bs.toArray⟩) w := by
  obtain ⟨ys, hl, hr⟩ := cellsOf_VE1 hVE h
  exact run_bytesToStringC hl hr h
end
end Go.Proofs.YthabndifdgafbaaGreatDoor.RV
end
section
set_option linter.constructorNameAsVariable false
namespace Go.Proofs.YthabndifdgafbaaGreatDoor.RV
open Go.RowKit (Below)
theorem pureRun_bind {α β : Type} {P : Program} (f : α → Sem β) : ∀ (s : Sem α), pureRun P (s >>= f) = (pureRun P s).bind fun a => pureRun P (f a) := by
  intro s
  show pureRun P (s.bind f) = _
  induction s with
  | pure a => rfl
  | program k ih => simp only [Sem.bind, pureRun]; exact ih P
  | _ => rfl
theorem findNow_rel (kind : TypeDesc) (k : Value) : ∀ (es es' : List MapEntry) (n : Nat), es.map (·.key) = es'.map (·.key) →
    (Instr.findNow kind k es n = none ∧ Instr.findNow kind k es' n = none) ∨ (Instr.findNow kind k es n = some none ∧ Instr.findNow kind k es' n = some none) ∨
      ∃ i v e', Instr.findNow kind k es n = some (some (i, v)) ∧ n ≤ i ∧ es'[i - n]? = some e' ∧ Instr.findNow kind k es' n = some (some (i, e'.val))
  | [], [], n, _ => .inr (.inl ⟨rfl, rfl⟩)
  | [], _ :: _, n, h => by simp at h
  | _ :: _, [], n, h => by simp at h
  | e :: es, e' :: es', n, h => by
    simp only [List.map_cons, List.cons.injEq] at h
    obtain ⟨hk, hks⟩ := h
    simp only [Instr.findNow, ← hk]
    cases hs : Instr.sameNow kind k e.key with
    | none => exact .inl ⟨rfl, rfl⟩
    | some b =>
      cases b with
      | true => exact .inr (.inr ⟨n, e.val, e', rfl, Nat.le_refl _, by simp, rfl⟩)
      | false =>
        rcases findNow_rel kind k es es' (n + 1) hks with h1 | h1 | ⟨i, v, x, h1, h2, h3, h4⟩
        · exact .inl h1
        · exact .inr (.inl h1)
        · exact .inr (.inr ⟨i, v, x, h1, by omega, by rw [show i - n = i - (n + 1) + 1 by omega]; simpa using h3, h4⟩)
theorem findAsking_rel {P : Program} (kt : TypeId) (k : Value) : ∀ (es es' : List MapEntry) (n : Nat) (r : Option (Nat × Value)), es.map (·.key) = es'.map (·.key) → pureRun P (Instr.findAsking kt k es n) = some r →
    (r = none ∧ pureRun P (Instr.findAsking kt k es' n) = some none) ∨ ∃ i v e', r = some (i, v) ∧ n ≤ i ∧ es'[i - n]? = some e' ∧ pureRun P (Instr.findAsking kt k es' n) = some (some (i, e'.val))
  | [], [], n, r, _, h => by
    simp only [Instr.findAsking] at h ⊢
    have : r = none := by simpa [pureRun, pure] using h.symm
    exact .inl ⟨this, rfl⟩
  | [], _ :: _, n, _, h, _ => by simp at h
  | _ :: _, [], n, _, h, _ => by simp at h
  | e :: es, e' :: es', n, r, h, hr => by
    simp only [List.map_cons, List.cons.injEq] at h
    obtain ⟨hk, hks⟩ := h
    simp only [Instr.findAsking, pureRun_bind, ← hk] at hr ⊢
    cases hq : pureRun P (Op.equal kt k e.key) with
    | none => rw [hq] at hr; simp at hr
    | some b =>
      rw [hq] at hr
      simp only [Option.bind_some] at hr ⊢
      cases b with
      | true =>
        have : r = some (n, e.val) := by simpa [pureRun, pure] using hr.symm
        exact .inr ⟨n, e.val, e', this, Nat.le_refl _, by simp, rfl⟩
      | false =>
        simp only [Bool.false_eq_true, if_false] at hr ⊢
        rcases findAsking_rel kt k es es' (n + 1) r hks hr with h1 | ⟨i, v, x, h1, h2, h3, h4⟩
        · exact .inl h1
        · exact .inr ⟨i, v, x, h1, by omega, by rw [show i - n = i - (n + 1) + 1 by omega]; simpa using h3, h4⟩
theorem findKey_rel {P : Program} {kt : TypeId} {k : Value} {es es' : List MapEntry} {r : Option (Nat × Value)} (hk : es.map (·.key) = es'.map (·.key)) (hr : pureRun P (Instr.findKey kt k es) = some r) :
    (r = none ∧ pureRun P (Instr.findKey kt k es') = some none) ∨ ∃ i v e', r = some (i, v) ∧ es'[i]? = some e' ∧ pureRun P (Instr.findKey kt k es') = some (some (i, e'.val)) := by
  unfold Instr.findKey at hr ⊢
  rw [pureRun_bind] at hr ⊢
  cases hu : pureRun P (underlying kt) with
  | none => rw [hu] at hr; simp at hr
  | some d =>
    rw [hu] at hr
    simp only [Option.bind_some] at hr ⊢
    rcases findNow_rel d k es es' 0 hk with ⟨h1, h2⟩ | ⟨h1, h2⟩ | ⟨i, v, e', h1, h2, h3, h4⟩
    · rw [h1] at hr
      rw [h2]
      simp only at hr ⊢
      rcases findAsking_rel kt k es es' 0 r hk hr with h | ⟨i, v, e', h3, h4, h5, h6⟩
      · exact .inl h
      · exact .inr ⟨i, v, e', h3, h5, h6⟩
    · rw [h1] at hr
      rw [h2]
      have : r = none := by simpa [pureRun, pure] using hr.symm
      exact .inl ⟨this, rfl⟩
    · rw [h1] at hr
      rw [h4]
      have : r = some (i, v) := by simpa [pureRun, pure] using hr.symm
      exact .inr ⟨i, v, e', this, by simpa using h3, rfl⟩
theorem entsOf_keys : ∀ {ks : List Value} {bs : List Nat}, ks.length = bs.length → (entsOf ks bs).map (·.key) = ks
  | [], [], _ => rfl
  | k :: ks, b :: bs, h => by
    simp only [entsOf, List.zipWith_cons_cons, List.map_cons]
    congr 1
    exact entsOf_keys (by simpa using h)
  | [], _ :: _, h => by simp at h
  | _ :: _, [], h => by simp at h
section
variable {cfg : Cfg} {O0 : Nat → Prop} {ι : Iota} {H : Heap} {w : World} {env : Env} {ρ : Operand → Value}
def MapR (w : World) (O : Nat → Prop) (ι : Iota) (x : Value) (ks : List Value) (vs : List PV) (bs : List Nat) (clock : Nat) : Prop :=
  (x = .map none ∧ ks = [] ∧ vs = [] ∧ bs = [] ∧ clock = 0) ∨ ∃ b ents, x = .map (some b) ∧ w.heap[b]? = some (.map ents clock) ∧ ks = ents.toList.map (·.key) ∧ bs = ents.toList.map (·.born) ∧ VL w O ι vs (ents.toList.map (·.val))
theorem mapOf_sound {m : PV} {x : Value} {ks : List Value} {vs : List PV} {bs : List Nat} {clock : Nat} (hI : Inv cfg O0 ι H w) (hx : V w (Owns O0 ι H) ι m x) (h : mapOf H m = some (ks, vs, bs, clock)) :
    MapR w (Owns O0 ι H) ι x ks vs bs clock := by
  unfold mapOf at h
  split at h
  · cases h; exact .inl ⟨V.lit_iff.1 hx, rfl, rfl, rfl, rfl⟩
  · rename_i id ver
    split at h
    · rename_i ho
      cases h
      simp only [V] at hx
      obtain ⟨L, hL, hxx⟩ := hx
      obtain ⟨L', hL', ents, h1, h2, h3, h4⟩ := hI.obj _ _ _ (obj_spec ho)
      rw [hL] at hL'
      cases hL'
      exact .inr ⟨_, ents, hxx, h1, h2, h3, h4⟩
    · cases h
  · cases h
    simp only [V] at hx
    obtain ⟨b, ents, hxx, _, h1, h2, h3, h4⟩ := hx
    exact .inr ⟨b, ents, hxx, h1, h2, h3, h4.lift⟩
  · cases h
theorem keyOk_spec {P : Program} {b : Bool} {kt : TypeId} {k : Value} (h : keyOk P b kt k = true) (w : World) : (Instr.checkKey b 10000 kt k).run P w = .ok () w := by
  unfold keyOk at h
  split at h
  · rename_i u hu; cases u; exact pureRun_sound hu
  · cases h
theorem run_lookup {P : Program} {t kt vt : TypeId} {x k : Value} {ents : Array MapEntry} {clock : Nat} {ok : Bool} {r : Option (Nat × Value)} {y : Value} {b : Bool} (hu : P.underlying t = some (.map kt vt))
    (hx : (x = .map none ∧ ents = #[]) ∨ ∃ b, x = .map (some b) ∧ w.heap[b]? = some (.map ents clock)) (hkey : (Instr.checkKey ents.isEmpty 10000 kt k).run P w = .ok () w)
    (hf : (Instr.findKey kt k ents.toList).run P w = .ok r w) (hr : (∃ i, r = some (i, y) ∧ b = true) ∨ (r = none ∧ (zeroValue vt).run P w = .ok y w ∧ b = false)) :
    (Instr.lookup t x k ok).run P w = .ok (if ok then .tuple #[y, .bool b] else y) w := by
  unfold Instr.lookup
  rcases hx with ⟨rfl, rfl⟩ | ⟨bb, rfl, hb⟩ <;> rcases hr with ⟨i, rfl, rfl⟩ | ⟨rfl, hz, rfl⟩
  · simp [run_underlying hu] at hkey hf ⊢; simp [hkey, hf]
  · simp [run_underlying hu] at hkey hf ⊢; simp [hkey, hf, hz]
  · simp [run_underlying hu, getObj, Sem.run, hb] at hkey hf ⊢; simp [hkey, hf]
  · simp [run_underlying hu, getObj, Sem.run, hb] at hkey hf ⊢; simp [hkey, hf, hz]
theorem lookupA_sound {t : TypeId} {m : PV} {x k : Value} {v : PV} {b ok : Bool} (hI : Inv cfg O0 ι H w) (hx : V w (Owns O0 ι H) ι m x) (h : lookupA cfg.P H t m k = some (v, b)) :
    ∃ y, (Instr.lookup t x k ok).run cfg.P w = .ok (if ok then .tuple #[y, .bool b] else y) w ∧ V w (Owns O0 ι H) ι v y := by
  unfold lookupA at h
  split at h
  · rename_i kt vt hu
    split at h
    · rename_i ks vs bs clock hm
      split at h
      · rename_i hkey
        have hM := mapOf_sound hI hx hm
        have hes : ∃ ents : Array MapEntry, ks = ents.toList.map (·.key) ∧ bs = ents.toList.map (·.born) ∧ VL w (Owns O0 ι H) ι vs (ents.toList.map (·.val)) ∧
            ((x = .map none ∧ ents = #[]) ∨ ∃ b, x = .map (some b) ∧ w.heap[b]? = some (.map ents clock)) := by
          rcases hM with ⟨rfl, rfl, rfl, rfl, _⟩ | ⟨r, ents, rfl, hb, h1, h2, h3⟩
          · exact ⟨#[], rfl, rfl, by simp [VL.nil_iff], .inl ⟨rfl, rfl⟩⟩
          · exact ⟨ents, h1, h2, h3, .inr ⟨r, rfl, hb⟩⟩
        obtain ⟨ents, hk, hbs, hvl, hxe⟩ := hes
        have hemp : ks.isEmpty = ents.isEmpty := by rw [hk]; cases ents with | mk l => cases l <;> rfl
        rw [hemp] at hkey
        unfold findE at h
        cases hp : pureRun cfg.P (Instr.findKey kt k (entsOf ks bs)) with
        | none => rw [hp] at h; cases h
        | some r =>
          have hrel := findKey_rel (es' := ents.toList) (by rw [entsOf_keys (by rw [hk, hbs]; simp), hk]) hp
          rw [hp] at h
          rcases hrel with ⟨rfl, hpr⟩ | ⟨i, u, e', rfl, he', hpr⟩
          · simp only at h
            split at h <;> cases h
            rename_i z hz
            obtain ⟨i, zv, hi, hzv, _, hV⟩ := zeroO_spec hz
            exact ⟨zv, run_lookup hu hxe (keyOk_spec hkey w) (pureRun_sound hpr) (.inr ⟨rfl, run_zeroValue hi hzv w, rfl⟩), hV _ _ _⟩
          · simp only at h
            split at h <;> cases h
            rename_i hv
            obtain ⟨y, hy, hVy⟩ := hvl.get _ _ hv
            have hy' : e'.val = y := by simpa [he'] using hy
            subst hy'
            exact ⟨e'.val, run_lookup hu hxe (keyOk_spec hkey w) (pureRun_sound hpr) (.inl ⟨i, rfl, rfl⟩), hVy⟩
      · cases h
    · cases h
  · cases h
theorem zip_find {ks : List Value} {vs : List PV} {bs : List Nat} {O : Nat → Prop} : ∀ {ents : List MapEntry}, ks = ents.map (·.key) → bs = ents.map (·.born) → VL w O ι vs (ents.map (·.val)) → ∀ {b : Nat} {k : Value} {v : PV} {c : Nat},
    (ks.zip (vs.zip bs)).find? (fun e => e.2.2 == b) = some (k, v, c) → ∃ e, ents.find? (·.born == b) = some e ∧ e.key = k ∧ V w O ι v e.val := by
  intro ents hk hb hv b k v c h
  induction ents generalizing ks vs bs with
  | nil => subst hk; simp at h
  | cons e ents ih =>
    subst hk hb
    simp only [List.map_cons] at hv h
    cases vs with
    | nil => simp at h
    | cons u vs =>
      obtain ⟨y, ys, he, hy, hys⟩ := VL.cons_iff.1 hv
      cases he
      simp only [List.zip_cons_cons, List.find?_cons] at h ⊢
      cases hq : e.born == b with
      | true =>
        rw [hq] at h
        simp at h
        obtain ⟨rfl, rfl, rfl⟩ := h
        exact ⟨e, rfl, rfl, hy⟩
      | false =>
        rw [hq] at h
        exact ih rfl rfl hys h
theorem aopRead_sound {o : Oper} {p : PV} (hI : Inv cfg O0 ι H w) (hE : ∀ x q, evO cfg env x = some q → V w (Owns O0 ι H) ι q (ρ x)) (h : aopRead cfg env H o = some p) :
    ∃ x, (execOp ρ o).run cfg.P w = .ok (.value x) w ∧ V w (Owns O0 ι H) ι p x := by
  obtain ⟨dst, op, ty, pos, after, guard⟩ := o
  cases op
  case load t x =>
    simp only [aopRead] at h
    split at h
    · rename_i q hq
      obtain ⟨a, y, hx, hr, hv⟩ := loadA_sound hI (hE x q hq) h
      refine ⟨y, run_v (s := Instr.loadAt t (ρ x)) ?_, hv⟩
      rw [hx]
      exact run_loadAt hr
    · cases h
  case convert src dst x =>
    simp only [aopRead] at h
    split at h
    · rename_i e hsrc hdst
      split at h
      · rename_i id ver s off len cap he hx
        split at h
        · rename_i s' l live ho
          split at h
          · rename_i hc
            obtain ⟨rfl, rfl, hle⟩ := hc
            split at h <;> cases h
            rename_i bs hbs
            obtain ⟨L, c, hL, hs, hxx, _⟩ := V.own_iff.1 (hE x _ hx)
            obtain ⟨L', hL', hs', _, _, hVE, _⟩ := hI.obj _ _ _ (obj_spec ho)
            rw [hL] at hL'
            cases hL'
            have hr := run_bytesToString (P := cfg.P) (c := c) ((hVE.drop off).take len) hbs
            have hlen : ((l.drop off).take len).length = len := by simp; omega
            rw [hlen] at hr
            refine ⟨_, run_v (s := convert src dst (ρ x)) ?_, V.lit_iff.2 rfl⟩
            rw [hxx, Go.run_convert_bytes_string w _ _ _ _ _ _ hsrc he hdst, hr]
          · cases h
        · cases h
      · rename_i id ver idx off len he hx
        split at h
        · rename_i s l live ho
          split at h
          · rename_i e2 he2
            split at h
            · rename_i hle
              split at h <;> cases h
              rename_i bs hbs
              have hv := hE x _ hx
              simp only [V] at hv
              obtain ⟨L, c, hL, hxx⟩ := hv
              obtain ⟨L', hL', hs', _, _, hVE, _⟩ := hI.obj _ _ _ (obj_spec ho)
              rw [hL] at hL'
              cases hL'
              obtain ⟨y, hy, _, cs, ct, fz, hb, hget⟩ := hVE.get idx e2 he2
              have hr := run_bytesToStringC (P := cfg.P) (b := L.b) (o := L.base + idx * L.s + off) (c := c) ((hy.cells.drop off).take len) (.inr ⟨cs, ct, fz, hb, fun j z hz => by
                rw [List.getElem?_take] at hz
                split at hz
                · rw [List.getElem?_drop] at hz
                  have := hget _ z hz
                  rw [hs', Nat.add_assoc (L.base + idx * s)]
                  exact this
                · cases hz⟩) hbs
              have hlen : ((e2.cells.drop off).take len).length = len := by simp; omega
              rw [hlen] at hr
              refine ⟨_, run_v (s := convert src dst (ρ x)) ?_, V.lit_iff.2 rfl⟩
              rw [hxx, Go.run_convert_bytes_string w _ _ _ _ _ _ hsrc he hdst, hr]
            · cases h
          · cases h
        · cases h
      · rename_i s l cap he hx
        split at h
        · rename_i hs
          subst hs
          split at h <;> cases h
          rename_i bs hbs
          obtain ⟨a, c, hxx, _, _, hr⟩ := V.dsl_iff.1 (hE x _ hx)
          rcases hr with rfl | ⟨b, o, rfl, _, hVE⟩
          · simp only [bytesOf, Option.some.injEq] at hbs
            subst hbs
            refine ⟨.string .empty, run_v (s := convert src dst (ρ x)) ?_, V.lit_iff.2 rfl⟩
            rw [hxx, Go.run_convert_bytes_string w _ _ _ _ _ _ hsrc he hdst]
            cases a <;> simp [Conv.bytesToString, loadCells, loadCellsFrom]
          · have hr := run_bytesToString (P := cfg.P) (c := c) hVE hbs
            refine ⟨_, run_v (s := convert src dst (ρ x)) ?_, V.lit_iff.2 rfl⟩
            rw [hxx, Go.run_convert_bytes_string w _ _ _ _ _ _ hsrc he hdst, hr]
        · cases h
      · rename_i a b he hx
        cases h
        have hxx := V.lit_iff.1 (hE x _ hx)
        refine ⟨.string .empty, run_v (s := convert src dst (ρ x)) ?_, V.lit_iff.2 rfl⟩
        rw [hxx, Go.run_convert_bytes_string w _ _ _ _ _ _ hsrc he hdst]
        simp [Conv.bytesToString]
      · cases h
    · cases h
  case entry it =>
    simp only [aopRead] at h
    split at h
    · rename_i id ver hit
      split at h
      · rename_i m since seen stepped ho
        split at h
        · rename_i b ks vs bs clock hlast hm
          split at h
          · rename_i hc
            subst hc
            split at h <;> cases h
            rename_i k v c hfind
            have hx := hE it _ hit
            simp only [V] at hx
            obtain ⟨L, hL, hxx⟩ := hx
            obtain ⟨L', hL', mr, h1, h2⟩ := hI.obj _ _ _ (obj_spec ho)
            rw [hL] at hL'
            cases hL'
            have hM := mapOf_sound hI h2 hm
            rcases hM with ⟨hmr, rfl, rfl, rfl, _⟩ | ⟨mb, ents, hmr, hb, hk, hbs, hvl⟩
            · simp at hfind
            · cases hmr
              obtain ⟨e, he, hek, hev⟩ := zip_find hk hbs hvl hfind
              have hback : seen.toArray.back? = some b := by simpa [Array.back?, List.getLast?_eq_getElem?] using hlast
              refine ⟨.tuple #[e.key, e.val], run_v (s := Instr.entry (ρ it)) ?_, V.tup_iff.2 ⟨_, rfl, ?_⟩⟩
              · have he' : ents.find? (fun x => x.born == b) = some e := by rw [← Array.find?_toList]; exact he
                simp [Instr.entry, hxx, getObj, Sem.run, h1, hb, hback, he']
              · subst hek
                exact VL.cons (V.ofVal1 _) (VL.cons hev (VL.nil_iff.2 rfl))
          · cases h
        · cases h
      · cases h
    · cases h
  case lookup t m k ok =>
    simp only [aopRead] at h
    split at h
    · rename_i pm pk hm hk
      split at h
      · rename_i kv hkv
        split at h <;> cases h
        rename_i v b hl
        have hkv' := toVal_sound pk (hE k _ hk) hkv
        obtain ⟨y, hr, hv⟩ := lookupA_sound (ok := ok) hI (hE m _ hm) hl
        refine ⟨_, run_v (s := Instr.lookup t (ρ m) (ρ k) ok) (by rw [hkv']; exact hr), ?_⟩
        cases ok
        · simpa using hv
        · exact V.tup_iff.2 ⟨_, rfl, VL.cons hv (VL.cons (V.lit_iff.2 rfl) (VL.nil_iff.2 rfl))⟩
      · cases h
    · cases h
  case call c =>
    simp only [aopRead] at h
    obtain ⟨callee, args, argTypes⟩ := c
    cases callee
    case value f => cases h
    case invoke r m => cases h
    case builtin b =>
      cases b
      case len =>
        simp only at h
        split at h
        · rename_i x t hargs ht
          have hargs' : args = #[x] := by simpa using congrArg List.toArray hargs
          subst hargs'
          have hmt : isMapT cfg.P t = true → ∃ a b, cfg.P.underlying t = some (.map a b) := fun hh => by
            unfold isMapT at hh
            split at hh
            · rename_i a b hab; exact ⟨a, b, hab⟩
            · cases hh
          split at h
          · rename_i hmap hx
            cases h
            obtain ⟨a, b, hu⟩ := hmt hmap
            have hxx := V.lit_iff.1 (hE x _ hx)
            exact ⟨.int .i64 0, by simp [execOp, resolve, invoke, builtin, Builtin.len_, ht, run_underlying hu, hxx, goInt], V.lit_iff.2 rfl⟩
          · rename_i ks vs bs clock hmap hx
            cases h
            obtain ⟨a, b, hu⟩ := hmt hmap
            have hxx := hE x _ hx
            simp only [V] at hxx
            obtain ⟨bb, ents, hxx, _, h1, _, _, h4⟩ := hxx
            have hlen : ents.size = vs.length := by simpa using h4.length
            exact ⟨.int .i64 vs.length, by simp [execOp, resolve, invoke, builtin, Builtin.len_, ht, run_underlying hu, hxx, goInt, getObj, Sem.run, h1, hlen], V.lit_iff.2 rfl⟩
          · rename_i id ver hmap hx
            split at h <;> cases h
            rename_i ks vs bs clock ho
            obtain ⟨a, b, hu⟩ := hmt hmap
            have hxx := hE x _ hx
            simp only [V] at hxx
            obtain ⟨L, hL, hxx⟩ := hxx
            obtain ⟨L', hL', ents, h1, _, _, h4⟩ := hI.obj _ _ _ (obj_spec ho)
            rw [hL] at hL'
            cases hL'
            have hlen : ents.size = vs.length := by simpa using h4.length
            exact ⟨.int .i64 vs.length, by simp [execOp, resolve, invoke, builtin, Builtin.len_, ht, run_underlying hu, hxx, goInt, getObj, Sem.run, h1, hlen], V.lit_iff.2 rfl⟩
          · cases h
        · cases h
      all_goals cases h
  all_goals (simp only [aopRead] at h; cases h)
end
end Go.Proofs.YthabndifdgafbaaGreatDoor.RV
end
section
set_option linter.constructorNameAsVariable false
namespace Go.Proofs.YthabndifdgafbaaGreatDoor.RV
open Go.RowKit (Below)
theorem V.oneCell {w : World} {O : Nat → Prop} {ι : Iota} {p : PV} {x : Value} (h : V w O ι p x) (hs : p.scalar = true) : x.oneCell' = true := by
  cases p with
  | lit v =>
    obtain rfl := V.lit_iff.1 h
    cases x <;> first | rfl | simp [PV.scalar] at hs
  | agg l => simp [PV.scalar] at hs
  | tup l => simp [PV.scalar] at hs
  | _ => simp only [V] at h; first
    | (obtain ⟨_, _, _, _, rfl, _⟩ := h; rfl)
    | (obtain ⟨_, _, rfl, _⟩ := h; rfl)
    | (obtain ⟨_, _, rfl⟩ := h; rfl)
    | (obtain ⟨_, _, _, rfl, _⟩ := h; rfl)
    | (obtain ⟨_, rfl, _⟩ := h; rfl)
theorem scalars_one {w : World} {O : Nat → Prop} {ι : Iota} : ∀ {l : List PV} {xs : List Value}, VL w O ι l xs → scalars l = true → ∀ v ∈ xs, v.oneCell' = true
  | [], xs, h, _, v, hv => by rw [VL.nil_iff] at h; subst h; cases hv
  | p :: ps, xs, h, hs, v, hv => by
    obtain ⟨y, ys, rfl, hy, hys⟩ := VL.cons_iff.1 h
    simp only [scalars, Bool.and_eq_true] at hs
    rcases List.mem_cons.1 hv with rfl | hv
    · exact hy.oneCell hs.1
    · exact scalars_one hys hs.2 v hv
theorem run_storeCells_fz (P : Program) (g o ce : Nat) (t : TypeId) (fz : Nat × Nat) (hfz : ∀ j, fz.1 ≤ j → j < fz.2 → ce ≤ j) : ∀ (vs : List Value) (i : Nat) (cur : Array Value) (w : World), w.heap[g]? = some (.cells cur t fz) → o + i + vs.length ≤ ce → ce ≤ cur.size → (∀ v ∈ vs, v.oneCell' = true) →
    (storeCells ⟨g, o, none⟩ vs i).run P w = .ok () (w.setRow g (cur.toList.take (o + i) ++ vs ++ cur.toList.drop (o + i + vs.length)).toArray)
  | [], i, cur, w, hg, _, _, _ => by
    simp only [storeCells, List.append_nil, List.length_nil, Nat.add_zero, List.take_append_drop, Array.toArray_toList]
    rw [setRow_self w g cur t fz hg]
    rfl
  | v :: rest, i, cur, w, hg, hl, hce, h1 => by
    have hi : o + i < cur.size := by simp at hl; omega
    have hadd : (⟨g, o, none⟩ : Addr).add i = ⟨g, o + i, none⟩ := by unfold Addr.add; split <;> simp_all
    have hcell : w.cell? ⟨g, o + i, none⟩ = some cur[o + i] := by simp [World.cell?, hg, hi]
    have hfro : w.frozen? ⟨g, o + i, none⟩ = false := by
      simp only [World.frozen?, hg]
      simp only [Bool.and_eq_false_iff, decide_eq_false_iff_not]
      by_cases hh : fz.1 ≤ o + i
      · right
        intro h2
        have := hfz _ hh h2
        simp at hl
        omega
      · exact .inl hh
    have hst : (store ((⟨g, o, none⟩ : Addr).add i) v).run P w = .ok () (w.setRow g (cur.setIfInBounds (o + i) v)) := by
      rw [hadd, run_store P w _ v _ (h1 v (by simp)), hcell]
      simp [hfro, setCell_eq_setRow w g (o + i) cur t fz v hg]
    have ih := run_storeCells_fz P g o ce t fz hfz rest (i + 1) (cur.setIfInBounds (o + i) v) (w.setRow g (cur.setIfInBounds (o + i) v)) (setRow_heap w g cur _ t _ hg) (by simp at hl ⊢; omega) (by simpa using hce) (fun x hx => h1 x (by simp [hx]))
    simp only [storeCells, Sem.run_bind, hst, Result.andThen_ok, ih, setRow_setRow]
    congr 3
    have e := list_seg_step cur.toList (o + i) v rest (by simp at hl ⊢; omega)
    simpa [Array.toList_setIfInBounds, Nat.add_assoc] using e
section
variable {cfg : Cfg} {O0 : Nat → Prop} {ι : Iota} {H : Heap} {w : World} {env : Env} {ρ : Operand → Value} {O : Nat → Prop}
theorem aopNew_sound {o : Oper} {p : PV} {ob : HObj} {id : Nat} (hE : ∀ x q, evO cfg env x = some q → V w O ι q (ρ x)) (h : aopNew cfg env o id = some (p, ob)) :
    ∃ x w' L, (execOp ρ o).run cfg.P w = .ok (.value x) w' ∧ Grown w w' ∧ L.b = w.heap.size ∧ ob.live = true ∧ ∀ O' ι', Ext w O ι w' O' ι' → ι' id 0 = some L → V w' O' ι' p x ∧ ObjR w' O' ι' L ob := by
  obtain ⟨dst, op, ty, pos, after, guard⟩ := o
  cases op
  case alloc t =>
    simp only [aopNew] at h
    split at h <;> cases h
    rename_i z hz
    obtain ⟨i, v, hi, hv, _, hV⟩ := zeroO_spec hz
    have hlen : v.cells.size = z.cells.length := by rw [← (hV w O ι).cells.length]; simp
    refine ⟨.pointer (some ⟨w.heap.size, 0, none⟩), w.alloc (.cells v.cells t), ⟨w.heap.size, 0, v.cells.size, z.cells.length⟩, ?_, .alloc w _, rfl, rfl, fun O' ι' he hL => ⟨V.ptr_iff.2 ⟨_, hL, by simp⟩, ?_⟩⟩
    · exact run_v (s := Instr.alloc t true (.tuple #[])) (by simp [Instr.alloc, run_zeroValue hi hv, newVar, newRow])
    · exact ⟨rfl, ⟨_, _, _, heap_alloc_new w _, Nat.le_refl _, Nat.le_refl _, fun i h1 h2 => by simp at h2⟩, by simp [hlen], VE.cons_iff.2 ⟨⟨v, hV _ _ _, hlen, _, _, _, heap_alloc_new w _, fun i y hy => by rw [Nat.zero_add]; simpa using hy⟩, VE.nil⟩, fun h => by cases h⟩
  case box t x =>
    simp only [aopNew] at h
    split at h <;> cases h
    rename_i q hq
    have hv := hE x q hq
    have hlen : (ρ x).cells.size = q.cells.length := by rw [← hv.cells.length]; simp
    refine ⟨.pointer (some ⟨w.heap.size, 0, none⟩), w.alloc (.cells (ρ x).cells t), ⟨w.heap.size, 0, (ρ x).cells.size, q.cells.length⟩, rfl, .alloc w _, rfl, rfl, fun O' ι' he hL => ⟨V.ptr_iff.2 ⟨_, hL, by simp⟩, ?_⟩⟩
    exact ⟨rfl, ⟨_, _, _, heap_alloc_new w _, Nat.le_refl _, Nat.le_refl _, fun i h1 h2 => by simp at h2⟩, by simp [hlen], VE.cons_iff.2 ⟨⟨ρ x, V.mono he _ _ hv, hlen, _, _, _, heap_alloc_new w _, fun i y hy => by rw [Nat.zero_add]; simpa using hy⟩, VE.nil⟩, fun h => by cases h⟩
  case buildSlice t len parts =>
    simp only [aopNew] at h
    split at h <;> cases h
    rename_i s l hs
    obtain ⟨cells, elem, hr, hl, hc, hrow⟩ := buildSliceA_sound (w := w) (O := O) (ι := ι) hE hs
    refine ⟨_, _, ⟨w.heap.size, 0, cells.size, s⟩, run_v hr, .alloc w _, rfl, rfl, fun O' ι' he hL => ⟨V.own_iff.2 ⟨_, len, hL, rfl, by simp, by simpa using hc, Nat.le_refl _, by simp⟩, ?_⟩⟩
    exact ⟨rfl, ⟨_, _, _, heap_alloc_new w _, Nat.le_refl _, Nat.le_refl _, fun i h1 h2 => by simp at h2⟩, by rw [hl]; simpa using hc, hrow.ve he (heap_alloc_new w _), fun h => by cases h⟩
  case makeSlice t l c =>
    simp only [aopNew] at h
    split at h <;> cases h
    rename_i s l hs
    obtain ⟨cells, elem, hr, hc, hrow⟩ := makeSliceA_sound (w := w) (O := O) (ι := ι) (ρ := ρ) hE hs
    refine ⟨_, _, ⟨w.heap.size, 0, cells.size, s⟩, run_v hr, .alloc w _, rfl, rfl, fun O' ι' he hL => ⟨V.own_iff.2 ⟨_, l.length, hL, rfl, by simp, by simpa using hc, Nat.le_refl _, by simp⟩, ?_⟩⟩
    exact ⟨rfl, ⟨_, _, _, heap_alloc_new w _, Nat.le_refl _, Nat.le_refl _, fun i h1 h2 => by simp at h2⟩, by simpa using hc, (hrow ι).ve he (heap_alloc_new w _), fun h => by cases h⟩
  case makeMap t r =>
    simp only [aopNew] at h
    split at h
    · rename_i hmt
      have hu : ∃ a b, cfg.P.underlying t = some (.map a b) := by
        unfold isMapT at hmt
        split at hmt
        · rename_i a b hab; exact ⟨a, b, hab⟩
        · cases hmt
      obtain ⟨a, b, hu⟩ := hu
      have fin : (Instr.makeMap t (r.map ρ)).run cfg.P w = .ok (.map (some w.heap.size)) (w.alloc (.map #[] 0)) →
          ∃ x w' L, (execOp ρ { dst, op := .makeMap t r, type := ty, pos, after, guard }).run cfg.P w = .ok (.value x) w' ∧ Grown w w' ∧ L.b = w.heap.size ∧ (HObj.mp [] [] [] 0).live = true ∧ ∀ O' ι', Ext w O ι w' O' ι' → ι' id 0 = some L → V w' O' ι' (.map id 0) x ∧ ObjR w' O' ι' L (.mp [] [] [] 0) := fun hr => by
        refine ⟨_, _, ⟨w.heap.size, 0, 0, 0⟩, run_v hr, .alloc w _, rfl, rfl, fun O' ι' he hL => ⟨?_, #[], heap_alloc_new w _, rfl, rfl, VL.nil_iff.2 rfl⟩⟩
        simp only [V]
        exact ⟨_, hL, rfl⟩
      split at h
      · cases h
        exact fin (by simp [Instr.makeMap, newObj, Sem.run])
      · rename_i x
        split at h <;> cases h
        rename_i k n hk
        have hx := V.lit_iff.1 (hE x _ hk)
        exact fin (by simp [Instr.makeMap, newObj, Sem.run, hx, run_underlying hu, asInt, asIntOf])
    · cases h
  case range t x =>
    simp only [aopNew] at h
    split at h <;> cases h
    rename_i s hu hs
    have hx := V.lit_iff.1 (hE x _ hs)
    refine ⟨.pointer (some ⟨w.heap.size, 0, none⟩), w.alloc (.stringIter s 0), ⟨w.heap.size, 0, 0, 0⟩, run_v (s := Instr.range t (ρ x)) ?_, .alloc w _, rfl, rfl, fun O' ι' he hL => ⟨?_, heap_alloc_new w _⟩⟩
    · simp [Instr.range, run_underlying hu, hx, newObj, Sem.run]
    · simp only [V]
      exact ⟨_, hL, rfl⟩
  all_goals (simp only [aopNew] at h; cases h)
theorem Inv.new {k : Nat} {ob : HObj} {L : Loc} {w' : World} {p : PV} {x : Value} (hI : Inv cfg O0 ι H w) (hn : H.get k = none) (hg : Grown w w') (hb : w.heap.size ≤ L.b)
    (hR : ∀ O' ι', Ext w (Owns O0 ι H) ι w' O' ι' → (∀ b, O' b → Owns O0 ι H b ∨ b = L.b) → ι' k 0 = some L → V w' O' ι' p x ∧ ObjR w' O' ι' L ob) :
    Inv cfg O0 (upd ι k 0 L) (H.put k (0, ob)) w' ∧ Step ι H w (upd ι k 0 L) (H.put k (0, ob)) w' ∧ V w' (Owns O0 (upd ι k 0 L) (H.put k (0, ob))) (upd ι k 0 L) p x := by
  have hnew : upd ι k 0 L k 0 = some L := by simp [upd]
  have hι : ∀ v L', ι k v = some L' → False := fun v L' h => by
    obtain ⟨ver, o, h1, _⟩ := hI.fresh _ _ _ h
    rw [hn] at h1
    cases h1
  have hO : ∀ b, Owns O0 (upd ι k 0 L) (H.put k (0, ob)) b → Owns O0 ι H b ∨ b = L.b := by
    rintro b (hb | ⟨id, ver, o, L', h1, h2, h3, h4⟩)
    · exact .inl (.inl hb)
    · rw [put_get] at h1
      split at h1
      · rename_i e
        subst e
        cases h1
        rw [hnew] at h3
        cases h3
        exact .inr h4.symm
      · rename_i e
        have : upd ι k 0 L id ver = ι id ver := by simp [upd, e]
        rw [this] at h3
        exact .inl (.inr ⟨id, ver, o, L', h1, h2, h3, h4⟩)
  have := Inv.set (L' := L) (o' := ob) (ver' := 0) hI rfl (fun ver o h => by rw [hn] at h; cases h) (fun L' h => (hι _ _ h).elim) hg.os hg.tape hg.output hg.size
    (fun b hlt hne => hg.block b hlt) (.inl hb) (fun he => (hR _ _ he hO hnew).2)
  exact ⟨this.1, this.2, (hR _ _ this.2.ext hO hnew).1⟩
end
end Go.Proofs.YthabndifdgafbaaGreatDoor.RV
end
section
set_option linter.constructorNameAsVariable false
namespace Go.Proofs.YthabndifdgafbaaGreatDoor.RV
open Go.RowKit (Below)
section
variable {cfg : Cfg} {O0 : Nat → Prop} {ι : Iota} {H : Heap} {w : World} {env : Env} {ρ : Operand → Value} {O : Nat → Prop}
def Wrote (cfg : Cfg) (O0 : Nat → Prop) (ι : Iota) (H : Heap) (w : World) (p : PV) (d : Delta) (x : Value) (w' : World) : Prop :=
  ∃ ι', Inv cfg O0 ι' (applyD H d) w' ∧ Step ι H w ι' (applyD H d) w' ∧ V w' (Owns O0 ι' (applyD H d)) ι' p x
theorem upd_self {k ver : Nat} {L : Loc} (h : ι k ver = some L) : upd ι k ver L = ι := by
  funext id v
  unfold upd
  split
  · rename_i hc; obtain ⟨rfl, rfl⟩ := hc; exact h.symm
  · rfl
theorem Inv.write {k ver s : Nat} {l l' : List PV} {cs' cs : Array Value} {t : TypeId} {fz : Nat × Nat} {L : Loc} (hI : Inv cfg O0 ι H w) (hg : H.get k = some (ver, .blk s l true)) (hL : ι k ver = some L)
    (hc : w.heap[L.b]? = some (.cells cs t fz)) (hsz : cs'.size = cs.size)
    (hlen : L.base + l'.length * s ≤ L.ce)
    (hel : ∀ O' ι', Ext w (Owns O0 ι H) ι (w.setRow L.b cs') O' ι' → VE (w.setRow L.b cs') O' ι' s L.b L.base l') :
    Inv cfg O0 ι (H.put k (ver, .blk s l' true)) (w.setRow L.b cs') ∧ Step ι H w ι (H.put k (ver, .blk s l' true)) (w.setRow L.b cs') := by
  obtain ⟨L2, hL2, hs, ⟨cs2, t2, fz2, hc2, hce, hfz⟩, _, _, _⟩ := hI.obj _ _ _ hg
  rw [hL] at hL2
  cases hL2
  rw [hc] at hc2
  cases hc2
  have := Inv.set (L' := L) (o' := .blk s l' true) (ver' := ver) (w' := w.setRow L.b cs') hI (upd_self hL).symm (fun v o h => by rw [hg] at h; cases h; exact Nat.le_refl _) (fun L' h => by rw [hL] at h; cases h; rfl) rfl rfl rfl
    (by simp [World.setRow]) (fun b hb hne => setRow_other w L.b b cs' hne) (.inr ⟨ver, _, L, hg, rfl, hL, rfl⟩)
    (fun he => ⟨hs, ⟨cs', t, fz, setRow_heap w L.b cs cs' t fz hc, by rw [hsz]; exact hce, hfz⟩, hlen, hel _ _ he, fun h => by cases h⟩)
  exact this
theorem VE.cells_of {s b o : Nat} {l : List PV} (h : VE w O ι s b o l) {i : Nat} {p : PV} (hp : l[i]? = some p) : p.cells.length = s := by
  obtain ⟨y, hy, hs, _⟩ := h.get i p hp
  rw [← hs, ← hy.cells.length]; simp
theorem storeA_sound {t : TypeId} {p v : PV} {x y : Value} {d : Delta} (hI : Inv cfg O0 ι H w) (hx : V w (Owns O0 ι H) ι p x) (hy : V w (Owns O0 ι H) ι v y) (h : storeA cfg.P H t p v = some d) :
    ∃ w', (Instr.storeAt t x y).run cfg.P w = .ok () w' ∧ Wrote cfg O0 ι H w undefP d undef w' := by
  unfold storeA at h
  split at h
  · rename_i id ver idx off
    split at h
    · rename_i s l n ho hn
      split at h
      · rename_i e he
        split at h
        · rename_i hc
          obtain ⟨hvn, hoff, hsc⟩ := hc
          have hgk := obj_spec ho
          obtain ⟨L, hL, hxx⟩ := V.ptr_iff.1 hx
          obtain ⟨L', hL', hs, ⟨cs, ct, fz, hcs, hce, hfz⟩, hlen, hVE, _⟩ := hI.obj _ _ _ hgk
          rw [hL] at hL'
          cases hL'
          have hidx : idx < l.length := (List.getElem?_eq_some_iff.1 he).1
          have hes := hVE.cells_of he
          obtain ⟨z, hz, hzs, hzc⟩ := hVE.get idx e he
          have hyl : y.cells.size = n := by rw [← hvn, ← hy.cells.length]; simp
          have hmul : (idx + 1) * s ≤ l.length * s := Nat.mul_le_mul_right _ hidx
          rw [Nat.add_mul, Nat.one_mul] at hmul
          have hst := run_storeCells_fz cfg.P L.b (L.base + idx * s + off) L.ce ct fz hfz.2 y.cells.toList 0 cs w hcs (by simp; omega) hce (scalars_one hy.cells hsc)
          generalize hcs' : (cs.toList.take (L.base + idx * s + off + 0) ++ y.cells.toList ++ cs.toList.drop (L.base + idx * s + off + 0 + y.cells.toList.length)).toArray = cs' at hst
          have hcsz : cs'.size = cs.size := by
            rw [← hcs']
            simp
            omega
          have hget : ∀ j, cs'[j]? = if L.base + idx * s + off ≤ j ∧ j < L.base + idx * s + off + n then y.cells.toList[j - (L.base + idx * s + off)]? else cs[j]? := fun j => by
            rw [← hcs']
            simp only [List.getElem?_toArray, List.append_assoc, Nat.add_zero]
            rw [List.getElem?_append]
            have hl1 : (cs.toList.take (L.base + idx * s + off)).length = L.base + idx * s + off := by simp; omega
            rw [hl1]
            split
            · rename_i h1
              rw [if_neg (by omega), List.getElem?_take, if_pos h1]; simp
            · rename_i h1
              rw [List.getElem?_append]
              have hl2 : y.cells.toList.length = n := by simpa using hyl
              rw [hl2]
              split
              · rename_i h2
                rw [if_pos (by omega)]
              · rename_i h2
                rw [if_neg (by omega), List.getElem?_drop]
                simp
                congr 1
                omega
          have hw : (Instr.storeAt t x y).run cfg.P w = .ok () (w.setRow L.b cs') := by
            rw [hxx, hs]
            simp only [Instr.storeAt, Instr.sureAddr, Sem.run_bind, Sem.run_pure, Result.andThen_ok, storeVar, run_sizeOf hn]
            rw [if_neg (by simp [hyl])]
            simpa using hst
          refine ⟨w.setRow L.b cs', hw, ?_⟩
          -- the elements behind the write
          have key : ∀ e' : PV, (∀ O' ι', Ext w (Owns O0 ι H) ι (w.setRow L.b cs') O' ι' → ∃ z', V (w.setRow L.b cs') O' ι' e' z' ∧ z'.cells.size = s ∧ ∀ j u, z'.cells.toList[j]? = some u → cs'[L.base + idx * s + j]? = some u) →
              Wrote cfg O0 ι H w undefP [(id, ver, .blk s (l.set idx e') true)] undef (w.setRow L.b cs') := by
            intro e' he'
            have := hI.write (cs' := cs') (l' := l.set idx e') hgk hL hcs hcsz (by simpa using hlen) (fun O' ι' hext => VE.of_get fun i q hq => ?_)
            · exact ⟨ι, this.1, this.2, V.tup_iff.2 ⟨#[], rfl, VL.nil_iff.2 rfl⟩⟩
            · rw [List.getElem?_set] at hq
              split at hq
              · rename_i hi
                subst hi
                cases hq
                obtain ⟨z', h1, h2, h3⟩ := he' O' ι' hext
                exact ⟨z', h1, h2, cs', ct, fz, setRow_heap w L.b cs cs' ct fz hcs, h3⟩
              · rename_i hi
                obtain ⟨q', hq1, hq2, cs2, t2, fz2, hb2, hq3⟩ := hVE.get i q hq
                rw [hcs] at hb2
                cases hb2
                refine ⟨q', V.mono hext _ _ hq1, hq2, cs', ct, fz, setRow_heap w L.b cs cs' ct fz hcs, fun j u hu => ?_⟩
                have hj : j < s := by have := (List.getElem?_eq_some_iff.1 hu).1; simpa [hq2] using this
                rw [hget, if_neg]
                · exact hq3 j u hu
                · rintro ⟨h1, h2⟩
                  rcases Nat.lt_or_gt_of_ne hi with hlt | hlt
                  · have : (idx + 1) * s ≤ i * s := Nat.mul_le_mul_right _ hlt
                    rw [Nat.add_mul, Nat.one_mul] at this
                    omega
                  · have : (i + 1) * s ≤ idx * s := Nat.mul_le_mul_right _ hlt
                    rw [Nat.add_mul, Nat.one_mul] at this
                    omega
          have hzcell : ∀ j u, z.cells.toList[j]? = some u → cs[L.base + idx * s + j]? = some u := by
            obtain ⟨cs2, t2, fz2, hb2, hq3⟩ := hzc
            rw [hcs] at hb2
            cases hb2
            exact hq3
          split at h
          · rename_i es
            cases h
            refine key _ fun O' ι' hext => ?_
            obtain ⟨zs, rfl, hzl⟩ := V.agg_iff.1 hz
            simp only [PV.cells] at hoff hes
            simp only [Value.cells] at hzs hzcell
            have hsp := VL.splice (VL.mono hext _ _ hzl) (VL.mono hext _ _ hy.cells) off
            refine ⟨.agg (zs.toList.take off ++ (y.cells.toList ++ zs.toList.drop (off + y.cells.toList.length))).toArray, V.agg_iff.2 ⟨_, rfl, by simpa using hsp⟩, ?_, fun j u hu => ?_⟩
            · show (List.toArray _).size = s
              simp
              omega
            · have hu : (zs.toList.take off ++ (y.cells.toList ++ zs.toList.drop (off + y.cells.toList.length)))[j]? = some u := hu
              rw [List.getElem?_append] at hu
              have hl1 : (zs.toList.take off).length = off := by simp; omega
              have hl2 : y.cells.toList.length = n := by simpa using hyl
              rw [hl1] at hu
              rw [hget]
              split at hu
              · rename_i h1
                rw [if_neg (by omega)]
                rw [List.getElem?_take, if_pos h1] at hu
                exact hzcell j u hu
              · rename_i h1
                rw [List.getElem?_append, hl2] at hu
                split at hu
                · rename_i h2
                  rw [if_pos (by omega), ← hu]
                  congr 1
                  omega
                · rename_i h2
                  rw [if_neg (by omega)]
                  rw [List.getElem?_drop] at hu
                  refine hzcell j u ?_
                  rw [← hu]
                  congr 1
                  omega
          · split at h
            · cases h
            · rename_i hne hnv
              split at h <;> cases h
              rename_i hc1
              obtain ⟨hn1, he1⟩ := hc1
              refine key _ fun O' ι' hext => ⟨y, V.mono hext _ _ hy, by omega, fun j u hu => ?_⟩
              have hj : j < y.cells.size := by have := (List.getElem?_eq_some_iff.1 hu).1; simpa using this
              rw [hget, if_pos (by omega), ← hu]
              congr 1
              omega
        · cases h
      · cases h
    · cases h
  · cases h
end
end Go.Proofs.YthabndifdgafbaaGreatDoor.RV
end
section
set_option linter.constructorNameAsVariable false
namespace Go.Proofs.YthabndifdgafbaaGreatDoor.RV
open Go.RowKit (Below)
section
variable {cfg : Cfg} {O0 : Nat → Prop} {ι : Iota} {H : Heap} {w : World} {env : Env} {ρ : Operand → Value} {O : Nat → Prop}
theorem VE.row {s b : Nat} : ∀ {l : List PV} {o : Nat}, VE w O ι s b o l → ∃ ys : List Value, ys.length = l.length * s ∧ RowR w O ι s ys.toArray l ∧ (∀ j y, ys[j]? = some y → w.cell? ⟨b, o + j, none⟩ = some y) ∧ (scalarsE l = true → ∀ v ∈ ys, v.oneCell' = true)
  | [], o, _ => ⟨[], by simp, fun m p h => by simp at h, fun j y h => by simp at h, fun _ v h => by cases h⟩
  | p :: ps, o, h => by
    obtain ⟨⟨y, hy, hs, hc⟩, hr⟩ := VE.cons_iff.1 h
    obtain ⟨ys, hl, hrow, hcell, h1⟩ := VE.row hr
    refine ⟨y.cells.toList ++ ys, ?_, fun m q hq => ?_, fun j z hz => ?_, fun hsc v hv => ?_⟩
    · simp [hl, hs, Nat.add_mul]; omega
    · cases m with
      | zero =>
        simp at hq
        subst hq
        exact ⟨y, hy, hs, fun j z hz => by
          have hj : j < y.cells.toList.length := (List.getElem?_eq_some_iff.1 hz).1
          rw [Nat.zero_mul, Nat.zero_add, List.getElem?_toArray, List.getElem?_append_left hj]
          exact hz⟩
      | succ m =>
        obtain ⟨z, hz, hzs, hget⟩ := hrow m q (by simpa using hq)
        refine ⟨z, hz, hzs, fun j u hu => ?_⟩
        have := hget j u hu
        rw [List.getElem?_toArray] at this ⊢
        have hl2 : y.cells.toList.length = s := by simpa using hs
        rw [List.getElem?_append_right (by rw [hl2, Nat.add_mul]; omega), hl2]
        rw [← this]
        congr 1
        rw [Nat.add_mul]
        omega
    · rw [List.getElem?_append] at hz
      have hl2 : y.cells.toList.length = s := by simpa using hs
      rw [hl2] at hz
      split at hz
      · obtain ⟨cs, t, fz, hb, hget⟩ := hc
        rw [cell_of_row w b _ cs t fz hb]
        exact hget j z hz
      · have := hcell (j - s) z hz
        rw [← this]
        congr 2
        omega
    · simp only [scalarsE, Bool.and_eq_true] at hsc
      rcases List.mem_append.1 hv with hv | hv
      · exact scalars_one hy.cells hsc.1 v hv
      · exact h1 hsc.2 v hv
theorem run_first_row {P : Program} {s k b o n c : Nat} {ys : List Value} (hk : k * s ≤ ys.length) (hc : ∀ j y, ys[j]? = some y → w.cell? ⟨b, o + j, none⟩ = some y) (w2 : World) (hw : w2.heap = w.heap) :
    (Builtin.firstCells s k (.slice (some ⟨b, o, none⟩) n c)).run P w2 = .ok (ys.take (k * s)).toArray w2 := by
  have hlen : (ys.take (k * s)).length = k * s := by simp; omega
  have hcell : ∀ a, w2.cell? a = w.cell? a := fun a => by simp [World.cell?, hw]
  have := run_loadCells_list (P := P) w2 ⟨b, o, none⟩ (ys.take (k * s)) (fun j v hv => by
    rw [List.getElem?_take] at hv
    split at hv
    · rw [Addr.add_mid, hcell]; exact hc j v hv
    · cases hv)
  rw [hlen] at this
  simpa [Builtin.firstCells] using this
theorem elemsOf_sound {s : Nat} {q : PV} {x : Value} {xs : List PV} (hI : Inv cfg O0 ι H w) (hx : V w (Owns O0 ι H) ι q x) (h : elemsOf H s q = some xs) :
    ∃ ys : List Value, ys.length = xs.length * s ∧ RowR w (Owns O0 ι H) ι s ys.toArray xs ∧ (∀ P w2, (Builtin.lenOf x).run P w2 = .ok xs.length w2) ∧
      (∀ P k, k ≤ xs.length → ∀ w2 : World, w2.heap = w.heap → (Builtin.firstCells s k x).run P w2 = .ok (ys.take (k * s)).toArray w2) ∧ (scalarsE xs = true → ∀ v ∈ ys, v.oneCell' = true) := by
  unfold elemsOf at h
  split at h
  · rename_i id ver s' off len cap
    split at h
    · rename_i s2 l live ho
      split at h <;> cases h
      rename_i hc
      obtain ⟨rfl, rfl, hle⟩ := hc
      obtain ⟨L, c, hL, hs, rfl, _⟩ := V.own_iff.1 hx
      obtain ⟨L', hL', _, _, _, hVE, _⟩ := hI.obj _ _ _ (obj_spec ho)
      rw [hL] at hL'
      cases hL'
      obtain ⟨ys, h1, h2, h3, h4⟩ := ((hVE.drop off).take len).row
      have hlen : ((l.drop off).take len).length = len := by simp; omega
      refine ⟨ys, h1, h2, fun P w2 => by rw [hlen]; simp [Builtin.lenOf], fun P k hk w2 hw => ?_, h4⟩
      exact run_first_row (by rw [h1]; exact Nat.mul_le_mul_right _ hk) h3 w2 hw
    · cases h
  · rename_i s' l cap
    split at h <;> cases h
    rename_i hs
    subst hs
    obtain ⟨a, c, rfl, _, _, hr⟩ := V.dsl_iff.1 hx
    rcases hr with rfl | ⟨b, o, rfl, _, hVE⟩
    · refine ⟨[], by simp, fun m p h => by simp at h, fun P w2 => by simp [Builtin.lenOf], fun P k hk w2 hw => ?_, fun _ v hv => by cases hv⟩
      have hk0 : k = 0 := by simpa using hk
      subst hk0
      cases a <;> simp [Builtin.firstCells, loadCells, loadCellsFrom]
    · obtain ⟨ys, h1, h2, h3, h4⟩ := hVE.row
      exact ⟨ys, h1, fun m p hp => by
          obtain ⟨y, hy, r⟩ := h2 m p hp
          exact ⟨y, hy.lift, r⟩, fun P w2 => by simp [Builtin.lenOf], fun P k hk w2 hw => run_first_row (by rw [h1]; exact Nat.mul_le_mul_right _ hk) h3 w2 hw, h4⟩
  · cases h
    obtain rfl := V.lit_iff.1 hx
    refine ⟨[], by simp, fun m p h => by simp at h, fun P w2 => by simp [Builtin.lenOf], fun P k hk w2 hw => ?_, fun _ v hv => by cases hv⟩
    simp [Builtin.firstCells]
  · rename_i b
    split at h <;> cases h
    rename_i hs
    subst hs
    obtain rfl := V.lit_iff.1 hx
    have hsz : b.data.size = b.size := rfl
    refine ⟨b.data.toList.map fun x => Value.int .u8 x.toNat, by simp [bytesP], fun m p hp => ?_, fun P w2 => by simp [Builtin.lenOf, bytesP], fun P k hk w2 hw => ?_, fun _ v hv => ?_⟩
    · simp only [bytesP, List.getElem?_map, Option.map_eq_some_iff] at hp
      obtain ⟨u, hu, rfl⟩ := hp
      refine ⟨.int .u8 u.toNat, V.lit_iff.2 rfl, rfl, fun j z hz => ?_⟩
      have : j = 0 := by have := (List.getElem?_eq_some_iff.1 hz).1; simpa [Value.cells] using this
      subst this
      simp [Value.cells] at hz
      simp [hu, ← hz]
    · simp only [Builtin.firstCells, Sem.run_pure]
      congr 1
      apply Array.ext'
      simp [ByteArray.data_extract, List.extract_eq_take_drop]
    · obtain ⟨u, _, rfl⟩ := List.mem_map.1 hv
      rfl
  · cases h
def notInt (P : Program) (t : TypeId) : Prop := (∃ e, P.underlying t = some (.slice e)) ∨ P.underlying t = some .string
theorem run_append_roomV {P : Program} {dt xt ty e : TypeId} {i : TypeInfo} {g o sLen sCap n : Nat} {x : Value} {ys : List Value} {cur : Array Value} {t : TypeId} {fz : Nat × Nat} {ce : Nat}
    (hdt : P.underlying dt = some (.slice e)) (hxt : notInt P xt) (hi : P.info? e = some i) (hg : w.heap[g]? = some (.cells cur t fz)) (hfz : ∀ j, fz.1 ≤ j → j < fz.2 → ce ≤ j) (hce : ce ≤ cur.size)
    (hlen : (Builtin.lenOf x).run P w = .ok n w) (hfirst : (Builtin.firstCells i.size n x).run P w = .ok ys.toArray w) (h1 : ∀ v ∈ ys, v.oneCell' = true) (hroom : sLen + n ≤ sCap) (hfit : o + sLen * i.size + ys.length ≤ ce) :
    (Builtin.append_ #[dt, xt] ty #[.slice (some ⟨g, o, none⟩) sLen sCap, x]).run P w =
      .ok (.slice (some ⟨g, o, none⟩) (sLen + n) sCap) (w.setRow g (cur.toList.take (o + sLen * i.size) ++ ys ++ cur.toList.drop (o + sLen * i.size + ys.length)).toArray) := by
  have hst := run_storeCells_fz P g (o + sLen * i.size) ce t fz hfz ys 0 cur w hg (by omega) hce h1
  simp only [Nat.add_zero] at hst
  unfold Builtin.append_
  simp only [List.getElem?_toArray, List.getElem?_cons_zero, List.getElem?_cons_succ, Sem.run_bind, run_underlying hdt, Result.andThen_ok, sizeOf, typeInfo, program, Sem.run, hi]
  rcases hxt with ⟨e', hd⟩ | hd <;> simp [run_underlying hd, hlen, hroom, hfirst, Addr.add_mid, hst]
theorem run_append_growV {P : Program} {dt xt ty e : TypeId} {i : TypeInfo} {z : Value} {base : Option Addr} {sLen sCap n : Nat} {x : Value} {ys olds : List Value}
    (hdt : P.underlying dt = some (.slice e)) (hxt : notInt P xt) (hi : P.info? e = some i) (hz : i.zero = some z)
    (hlen : (Builtin.lenOf x).run P w = .ok n w) (hfirst : ∀ w2 : World, w2.heap = w.heap → (Builtin.firstCells i.size n x).run P w2 = .ok ys.toArray w2)
    (hold : ∀ w2 : World, w2.heap = w.heap → (Builtin.firstCells i.size sLen (.slice base sLen sCap)).run P w2 = .ok olds.toArray w2)
    (hg : sCap < sLen + n) (h63 : sLen + n ≤ 2 ^ 40) (hb : (sLen + n) * i.bytes ≤ 2 ^ 40) :
    ∃ cap rest, (Builtin.append_ #[dt, xt] ty #[.slice base sLen sCap, x]).run P w =
      .ok (.slice (some ⟨w.heap.size, 0, none⟩) (sLen + n) cap) (w.drew.alloc (.cells (olds ++ (ys ++ rest)).toArray e)) ∧ sLen + n ≤ cap ∧ rest.length = (cap - (sLen + n)) * z.cells.size := by
  have hroom : ¬ (sLen + n ≤ sCap) := by omega
  have h1 : (2 : Nat) ^ 40 ≤ 140737488355328 := by decide
  have h2 : (2 : Nat) ^ 40 ≤ 9223372036854775807 := by decide
  have h63' : ¬ (9223372036854775807 < ((sLen : Int) + (n : Int))) := by omega
  have hfit : Builtin.nextslicecap (sLen + n) sCap * i.bytes ≤ 281474976710656 := growslice_fits hg (by omega)
  have h48' : ¬ (281474976710656 < Builtin.nextslicecap (sLen + n) sCap * i.bytes) := by omega
  have hf := hfirst w.drew rfl
  have ho := hold w.drew rfl
  refine ⟨grownCap w (sLen + n) sCap e, (Builtin.zeroCells z.cells (grownCap w (sLen + n) sCap e - (sLen + n))).toList, ?_, grownCap_ge _ _ _ _, by simp [size_zeroCells]⟩
  have hcells : (olds ++ (ys ++ (Builtin.zeroCells z.cells (grownCap w (sLen + n) sCap e - (sLen + n))).toList)).toArray = olds.toArray ++ ys.toArray ++ Builtin.zeroCells z.cells (grownCap w (sLen + n) sCap e - (sLen + n)) := by
    apply Array.ext'
    simp
  rw [hcells]
  rcases hxt with ⟨e', hd⟩ | hd <;> simp [Builtin.append_, run_underlying hdt, run_underlying hd, sizeOf, typeInfo, zeroValue, hi, hz, hlen, hroom, h63', h48', Question.forced, hf, ho, newRow, grownCap] <;> (congr 2; apply Array.ext'; simp)
end
end Go.Proofs.YthabndifdgafbaaGreatDoor.RV
end
section
set_option linter.constructorNameAsVariable false
namespace Go.Proofs.YthabndifdgafbaaGreatDoor.RV
open Go.RowKit (Below)
section
variable {cfg : Cfg} {O0 : Nat → Prop} {ι : Iota} {H : Heap} {w : World} {env : Env} {ρ : Operand → Value} {O : Nat → Prop}
theorem Grown.drewAlloc (w : World) (o : Obj) : Grown w (w.drew.alloc o) := ⟨rfl, rfl, rfl, by simp, fun b hb => heap_alloc_old w.drew o b hb⟩
theorem RowR.append {s : Nat} {ys zs : List Value} {l l' : List PV} (h : RowR w O ι s ys.toArray l) (h' : RowR w O ι s zs.toArray l') (hl : ys.length = l.length * s) : RowR w O ι s (ys ++ zs).toArray (l ++ l') := by
  intro m p hp
  rw [List.getElem?_append] at hp
  split at hp
  · obtain ⟨y, hy, hs, hget⟩ := h m p hp
    refine ⟨y, hy, hs, fun j z hz => ?_⟩
    have := hget j z hz
    rw [List.getElem?_toArray] at this ⊢
    rw [List.getElem?_append_left (List.getElem?_eq_some_iff.1 this).1]
    exact this
  · rename_i hm
    obtain ⟨y, hy, hs, hget⟩ := h' (m - l.length) p hp
    refine ⟨y, hy, hs, fun j z hz => ?_⟩
    have := hget j z hz
    rw [List.getElem?_toArray] at this ⊢
    have e : m * s + j = ys.length + ((m - l.length) * s + j) := by
      rw [hl, Nat.sub_mul]
      have : l.length * s ≤ m * s := Nat.mul_le_mul_right _ (by omega)
      omega
    rw [e, List.getElem?_append_right (by omega)]
    rw [← this]
    congr 1
    omega
theorem RowR.more {s : Nat} {ys zs : List Value} {l : List PV} (h : RowR w O ι s ys.toArray l) : RowR w O ι s (ys ++ zs).toArray l := by
  intro m p hp
  obtain ⟨y, hy, hs, hget⟩ := h m p hp
  refine ⟨y, hy, hs, fun j z hz => ?_⟩
  have := hget j z hz
  rw [List.getElem?_toArray] at this ⊢
  rw [List.getElem?_append_left (List.getElem?_eq_some_iff.1 this).1]
  exact this
theorem wrote_new {k s n cap : Nat} {xs : List PV} {cells : List Value} {e : TypeId} {w' : World} (hI : Inv cfg O0 ι H w) (hn : H.get k = none) (hw : w' = w.drew.alloc (.cells cells.toArray e))
    (hrow : RowR w (Owns O0 ι H) ι s cells.toArray xs) (hlen : xs.length = n) (hcap : n ≤ cap) (hsz : cap * s ≤ cells.length) :
    Wrote cfg O0 ι H w (.own k 0 s 0 n none) [(k, 0, .blk s xs true)] (.slice (some ⟨w.heap.size, 0, none⟩) n cap) w' := by
  subst hw
  have hxs : xs.length * s ≤ cells.length := by
    rw [hlen]
    exact Nat.le_trans (Nat.mul_le_mul_right _ hcap) hsz
  have := Inv.new (L := ⟨w.heap.size, 0, cells.length, s⟩) (ob := .blk s xs true) (p := .own k 0 s 0 n none) (x := .slice (some ⟨w.heap.size, 0, none⟩) n cap) hI hn (Grown.drewAlloc w (.cells cells.toArray e)) (Nat.le_refl _)
    (fun O' ι' he _ hL => ⟨V.own_iff.2 ⟨_, cap, hL, rfl, by simp, by simpa using hsz, hcap, fun k h => by cases h⟩,
      rfl, ⟨_, _, _, heap_alloc_new w.drew _, by simp, Nat.le_refl _, fun i h1 h2 => by simp at h2⟩, by simpa using hxs, hrow.ve he (heap_alloc_new w.drew _), fun h => by cases h⟩)
  exact ⟨_, this.1, this.2.1, this.2.2⟩
theorem wrote_none {p : PV} {x : Value} (hI : Inv cfg O0 ι H w) (hv : V w (Owns O0 ι H) ι p x) : Wrote cfg O0 ι H w p [] x w := ⟨ι, hI, .refl, hv⟩
theorem list_three (a b c : List Value) (j : Nat) : (a ++ b ++ c)[j]? = if j < a.length then a[j]? else if j < a.length + b.length then b[j - a.length]? else c[j - a.length - b.length]? := by
  rw [List.append_assoc, List.getElem?_append]
  split
  · rfl
  · rw [List.getElem?_append]
    split
    · rw [if_pos (by omega)]
    · rw [if_neg (by omega)]
theorem VE.overwrite {s b base c t' : Nat} {l xs : List PV} {cs : Array Value} {t : TypeId} {fz : Nat × Nat} {ys : List Value} {O' : Nat → Prop} {ι' : Iota} (hVE : VE w O ι s b base l) (hb : w.heap[b]? = some (.cells cs t fz))
    (hrow : RowR w O ι s ys.toArray xs) (hl : ys.length = xs.length * s) (hfit : base + c * s + ys.length ≤ cs.size) (hcl : c ≤ l.length) (cs' : Array Value)
    (hcs' : cs' = (cs.toList.take (base + c * s) ++ ys ++ cs.toList.drop (base + c * s + ys.length)).toArray) (he : Ext w O ι (w.setRow b cs') O' ι') (ht : t' ≤ c) :
    VE (w.setRow b cs') O' ι' s b (base + t' * s) ((l.drop t').take (c - t') ++ (xs ++ l.drop (c + xs.length))) := by
  have hb' := setRow_heap w b cs cs' t fz hb
  have hget : ∀ j, cs'[j]? = if j < base + c * s then cs[j]? else if j < base + c * s + ys.length then ys[j - (base + c * s)]? else cs[j]? := fun j => by
    rw [hcs', List.getElem?_toArray, list_three]
    have h1 : (cs.toList.take (base + c * s)).length = base + c * s := by simp; omega
    rw [h1]
    split
    · rename_i h; rw [List.getElem?_take, if_pos h]; simp
    · split
      · rfl
      · rw [List.getElem?_drop]
        simp
        congr 1
        omega
  refine VE.of_get fun i p hp => ?_
  have h1 : ((l.drop t').take (c - t')).length = c - t' := by simp; omega
  rw [List.getElem?_append, h1] at hp
  split at hp
  · rename_i hi
    rw [List.getElem?_take, if_pos hi, List.getElem?_drop] at hp
    obtain ⟨y, hy, hs, cs2, t2, fz2, hb2, hg2⟩ := hVE.get _ p hp
    rw [hb] at hb2
    cases hb2
    refine ⟨y, V.mono he _ _ hy, hs, cs', t, fz, hb', fun j z hz => ?_⟩
    have hj : j < s := by have := (List.getElem?_eq_some_iff.1 hz).1; simpa [hs] using this
    have hm : (t' + i + 1) * s ≤ c * s := Nat.mul_le_mul_right _ (by omega)
    rw [Nat.add_mul, Nat.add_mul, Nat.one_mul] at hm
    rw [hget, if_pos (by omega)]
    rw [← hg2 j z hz]
    congr 1
    rw [Nat.add_mul]
    omega
  · rename_i hi
    rw [List.getElem?_append] at hp
    split at hp
    · rename_i hi2
      obtain ⟨y, hy, hs, hg2⟩ := hrow _ p hp
      refine ⟨y, V.mono he _ _ hy, hs, cs', t, fz, hb', fun j z hz => ?_⟩
      have hz2 := hg2 j z hz
      rw [List.getElem?_toArray] at hz2
      have hlt := (List.getElem?_eq_some_iff.1 hz2).1
      have e : base + t' * s + i * s + j = base + c * s + ((i - (c - t')) * s + j) := by
        have : i = (i - (c - t')) + (c - t') := by omega
        rw [show i * s = (i - (c - t')) * s + (c - t') * s by rw [← Nat.add_mul]; congr 1, Nat.sub_mul c t' s]
        have : t' * s ≤ c * s := Nat.mul_le_mul_right _ ht
        omega
      rw [hget, e, if_neg (by omega), if_pos (by omega)]
      rw [← hz2]
      congr 1
      omega
    · rename_i hi2
      rw [List.getElem?_drop] at hp
      obtain ⟨y, hy, hs, cs2, t2, fz2, hb2, hg2⟩ := hVE.get _ p hp
      rw [hb] at hb2
      cases hb2
      refine ⟨y, V.mono he _ _ hy, hs, cs', t, fz, hb', fun j z hz => ?_⟩
      have e : base + t' * s + i * s = base + (c + xs.length + (i - (c - t') - xs.length)) * s := by
        rw [Nat.add_assoc, ← Nat.add_mul]
        congr 2
        omega
      have hge : (c + xs.length) * s ≤ (c + xs.length + (i - (c - t') - xs.length)) * s := Nat.mul_le_mul_right _ (by omega)
      rw [Nat.add_mul c xs.length] at hge
      rw [hget, e, if_neg (by omega), if_neg (by omega)]
      exact hg2 j z hz
set_option maxHeartbeats 2000000 in
theorem appendA_sound {dt xt ty e : TypeId} {fresh : Nat} {d x p : PV} {dv xv : Value} {dl : Delta} (hI : Inv cfg O0 ι H w) (hn : H.get fresh = none)
    (hdt : cfg.P.underlying dt = some (.slice e)) (hxt : notInt cfg.P xt) (hd : V w (Owns O0 ι H) ι d dv) (hx : V w (Owns O0 ι H) ι x xv) (h : appendA cfg.P H e fresh d x = some (p, dl)) :
    ∃ y w', (Builtin.append_ #[dt, xt] ty #[dv, xv]).run cfg.P w = .ok y w' ∧ Wrote cfg O0 ι H w p dl y w' := by
  unfold appendA at h
  split at h
  · rename_i i z hi hz
    obtain ⟨i', zv, hi', hzv, _, hVz⟩ := zeroO_spec hz
    rw [hi] at hi'
    cases hi'
    split at h
    · rename_i xs hxs
      split at h
      · rename_i hc
        obtain ⟨hzl, hpos, hsz, hsc⟩ := hc
        have hzs : zv.cells.size = i.size := by rw [← hzl, ← (hVz w (fun _ => False) ι).cells.length]; simp
        obtain ⟨ys, hyl, hrow, hlen, hfirst, hone⟩ := elemsOf_sound hI hx hxs
        have hfull : ys.take (xs.length * i.size) = ys := List.take_of_length_le (by omega)
        have hfirst1 : ∀ w2 : World, w2.heap = w.heap → (Builtin.firstCells i.size xs.length xv).run cfg.P w2 = .ok ys.toArray w2 := fun w2 hw => by
          have := hfirst cfg.P xs.length (Nat.le_refl _) w2 hw
          rwa [hfull] at this
        -- a new row for it all
        have grow : ∀ (base : Option Addr) (sLen sCap : Nat) (l : List PV) (olds : List Value), olds.length = l.length * i.size → l.length = sLen → RowR w (Owns O0 ι H) ι i.size olds.toArray l →
            (∀ w2 : World, w2.heap = w.heap → (Builtin.firstCells i.size sLen (.slice base sLen sCap)).run cfg.P w2 = .ok olds.toArray w2) → sCap < sLen + xs.length → sLen + xs.length ≤ 2 ^ 40 → (sLen + xs.length) * i.bytes ≤ 2 ^ 40 →
            ∃ y w', (Builtin.append_ #[dt, xt] ty #[.slice base sLen sCap, xv]).run cfg.P w = .ok y w' ∧ Wrote cfg O0 ι H w (.own fresh 0 i.size 0 (sLen + xs.length) none) [(fresh, 0, .blk i.size (l ++ xs) true)] y w' := by
          intro base sLen sCap l olds ho1 ho2 ho3 ho4 hg h63 hb
          obtain ⟨cap, rest, hr, hcap, hrest⟩ := run_append_growV (ty := ty) hdt hxt hi hzv (hlen _ _) hfirst1 ho4 hg h63 hb
          refine ⟨_, _, hr, wrote_new hI hn rfl ?_ (by simp [ho2]) hcap ?_⟩
          · rw [← List.append_assoc]
            exact (ho3.append hrow ho1).more
          · simp only [List.length_append, ho1, hyl, hrest, hzs, ho2]
            rw [← Nat.add_mul, ← Nat.add_mul]
            exact Nat.mul_le_mul_right _ (by omega)
        split at h
        · -- nil
          have hdv := V.lit_iff.1 hd
          subst hdv
          split at h
          · cases h
            have hys : ys = [] := List.eq_nil_of_length_eq_zero (by simpa using hyl)
            refine ⟨.slice none 0 0, w, ?_, wrote_none hI (V.lit_iff.2 rfl)⟩
            have hl0 := hlen cfg.P w
            have hf0 := hfirst1 w rfl
            simp only [List.length_nil] at hl0 hf0
            subst hys
            rcases hxt with ⟨e', hxt⟩ | hxt <;> simp [Builtin.append_, run_underlying hdt, run_underlying hxt, sizeOf, typeInfo, hi, hl0, hf0]
          · rename_i hne
            split at h <;> cases h
            rename_i hb
            obtain ⟨hb1, hb2⟩ := hb
            have hxp : 0 < xs.length := by cases xs with | nil => exact absurd rfl hne | cons a l => simp
            have := grow none 0 0 [] [] (by simp) rfl (fun m p h => by simp at h) (fun w2 hw => by simp [Builtin.firstCells]) (by omega) (by omega) (by simpa using hb1)
            simpa using this
        · -- the call's own
          rename_i id ver s off len cap
          split at h
          · rename_i s' l live ho
            split at h
            · rename_i hb
              obtain ⟨rfl, rfl, hle, hb1, hb2⟩ := hb
              have hgk := obj_spec ho
              obtain ⟨L, c, hL, hs, rfl, hce, hlc, hcap⟩ := V.own_iff.1 hd
              obtain ⟨L', hL', _, ⟨cs, ct, fz, hcs, hcesz, hfz⟩, hlen2, hVE, _⟩ := hI.obj _ _ _ hgk
              rw [hL] at hL'
              cases hL'
              obtain ⟨olds, ho1, ho2, ho3, _⟩ := ((hVE.drop off).take len).row
              have holen : ((l.drop off).take len).length = len := by simp; omega
              have hold : ∀ w2 : World, w2.heap = w.heap → (Builtin.firstCells i.size len (.slice (some ⟨L.b, L.base + off * i.size, none⟩) len c)).run cfg.P w2 = .ok olds.toArray w2 := fun w2 hw => by
                have := run_first_row (P := cfg.P) (n := len) (c := c) (by rw [ho1, holen]; exact Nat.le_refl _) ho3 w2 hw
                rwa [List.take_of_length_le (by rw [ho1, holen]; exact Nat.le_refl _)] at this
              -- in its place
              have hroom : len + xs.length ≤ c → L.base + off * i.size + len * i.size + ys.length ≤ L.ce ∧ (Builtin.append_ #[dt, xt] ty #[.slice (some ⟨L.b, L.base + off * i.size, none⟩) len c, xv]).run cfg.P w =
                  .ok (.slice (some ⟨L.b, L.base + off * i.size, none⟩) (len + xs.length) c) (w.setRow L.b (cs.toList.take (L.base + (off + len) * i.size) ++ ys ++ cs.toList.drop (L.base + (off + len) * i.size + ys.length)).toArray) := fun hrm => by
                have hm : (len + xs.length) * i.size ≤ c * i.size := Nat.mul_le_mul_right _ hrm
                rw [Nat.add_mul] at hm
                have hfit : L.base + off * i.size + len * i.size + ys.length ≤ L.ce := by omega
                have := run_append_roomV (ty := ty) hdt hxt hi hcs hfz.2 hcesz (hlen _ _) (hfirst1 w rfl) (hone hsc) hrm hfit
                rw [Nat.add_mul, ← Nat.add_assoc]
                exact ⟨hfit, this⟩
              split at h
              · cases h
                have hys : ys = [] := List.eq_nil_of_length_eq_zero (by simpa using hyl)
                subst hys
                obtain ⟨_, hr⟩ := hroom (by simpa using hlc)
                refine ⟨_, w, ?_, wrote_none hI hd⟩
                rw [hr]
                simp only [List.append_nil, List.length_nil, Nat.add_zero, List.take_append_drop, Array.toArray_toList]
                rw [setRow_self w L.b cs ct fz hcs]
              · rename_i hne
                split at h
                · rename_i c'
                  obtain rfl := hcap c' rfl
                  split at h
                  · rename_i hlt
                    cases h
                    exact grow _ _ _ _ olds ho1 holen ho2 hold hlt hb2 hb1
                  · rename_i hlt
                    split at h <;> cases h
                    obtain ⟨hfit, hr⟩ := hroom (by omega)
                    refine ⟨_, _, hr, ?_⟩
                    have := hI.write (cs' := (cs.toList.take (L.base + (off + len) * i.size) ++ ys ++ cs.toList.drop (L.base + (off + len) * i.size + ys.length)).toArray) (l' := l.take (off + len) ++ (xs ++ l.drop (off + len + xs.length))) hgk hL hcs
                      (by simp; rw [Nat.add_mul] at *; omega)
                      (by
                        simp only [List.length_append, List.length_take, List.length_drop]
                        by_cases hx : off + len + xs.length ≤ l.length
                        · rw [show min (off + len) l.length + (xs.length + (l.length - (off + len + xs.length))) = l.length by omega]; exact hlen2
                        · rw [show min (off + len) l.length + (xs.length + (l.length - (off + len + xs.length))) = off + len + xs.length by omega, Nat.add_mul, Nat.add_mul]; omega)
                      (fun O' ι' he => by
                        have := VE.overwrite (t' := 0) hVE hcs hrow hyl (by rw [Nat.add_mul]; omega) hle _ rfl he (Nat.zero_le _)
                        simpa using this)
                    refine ⟨ι, this.1, this.2, V.own_iff.2 ⟨L, c, hL, hs, rfl, hce, by omega, hcap⟩⟩
                · split at h <;> cases h
                  by_cases hrm : len + xs.length ≤ c
                  · obtain ⟨hfit, hr⟩ := hroom hrm
                    refine ⟨_, _, hr, ?_⟩
                    generalize hcs' : (cs.toList.take (L.base + (off + len) * i.size) ++ ys ++ cs.toList.drop (L.base + (off + len) * i.size + ys.length)).toArray = cs'
                    have hnone : ∀ L', ι id (ver + 1) = some L' → L' = ⟨L.b, L.base + off * i.size, L.ce, i.size⟩ := fun L' h => by
                      obtain ⟨v, o, h1, h2⟩ := hI.fresh _ _ _ h
                      rw [hgk] at h1
                      cases h1
                      omega
                    have := Inv.set (ι' := upd ι id (ver + 1) ⟨L.b, L.base + off * i.size, L.ce, i.size⟩) (o' := .blk i.size ((l.drop off).take len ++ xs) true) (w' := w.setRow L.b cs') hI rfl (fun v o h => by rw [hgk] at h; cases h; omega) hnone rfl rfl rfl
                      (by simp [World.setRow]) (fun b hb hne => setRow_other w L.b b cs' hne) (.inr ⟨ver, _, L, hgk, rfl, hL, rfl⟩)
                      (fun he => ⟨rfl, ⟨cs', ct, fz, setRow_heap w L.b cs cs' ct fz hcs, by
                          rw [← hcs']; simp; rw [Nat.add_mul] at *; omega, hfz⟩, by
                          show L.base + off * i.size + _ ≤ L.ce
                          rw [List.length_append, holen, Nat.add_mul]; omega, by
                          have hv := VE.overwrite (t' := off) hVE hcs hrow hyl (by rw [Nat.add_mul]; omega) hle cs' hcs'.symm he (by omega)
                          rw [show off + len - off = len by omega] at hv
                          have hv2 := VE.take hv (len + xs.length)
                          rw [← List.append_assoc, List.take_left' (by rw [List.length_append, holen])] at hv2
                          exact hv2, fun h => by cases h⟩)
                    refine ⟨_, this.1, this.2, V.own_iff.2 ⟨⟨L.b, L.base + off * i.size, L.ce, i.size⟩, c, by simp [upd], rfl, by simp, by simpa using hce, hrm, fun k h => by cases h⟩⟩
                  · obtain ⟨cap, rest, hr, hcap2, hrest⟩ := run_append_growV (ty := ty) hdt hxt hi hzv (hlen _ _) hfirst1 hold (by omega) hb2 hb1
                    refine ⟨_, _, hr, ?_⟩
                    have hsz : cap * i.size ≤ (olds ++ (ys ++ rest)).length := by
                      simp only [List.length_append, ho1, hyl, hrest, hzs, holen]
                      rw [← Nat.add_mul, ← Nat.add_mul]
                      exact Nat.mul_le_mul_right _ (by omega)
                    have hnone : ∀ L', ι id (ver + 1) = some L' → L' = ⟨w.heap.size, 0, (olds ++ (ys ++ rest)).length, i.size⟩ := fun L' h => by
                      obtain ⟨v, o, h1, h2⟩ := hI.fresh _ _ _ h
                      rw [hgk] at h1
                      cases h1
                      omega
                    have hg := Grown.drewAlloc w (.cells (olds ++ (ys ++ rest)).toArray e)
                    have := Inv.set (ι' := upd ι id (ver + 1) ⟨w.heap.size, 0, (olds ++ (ys ++ rest)).length, i.size⟩) (o' := .blk i.size ((l.drop off).take len ++ xs) true) hI rfl (fun v o h => by rw [hgk] at h; cases h; omega) hnone hg.os hg.tape hg.output
                      hg.size (fun b hb _ => hg.block b hb) (.inl (Nat.le_refl _))
                      (fun he => ⟨rfl, ⟨_, _, _, heap_alloc_new w.drew _, by simp, Nat.le_refl _, fun i h1 h2 => by simp at h2⟩, by
                          show 0 + _ ≤ _
                          rw [List.length_append, holen, Nat.zero_add]
                          exact Nat.le_trans (Nat.mul_le_mul_right _ hcap2) hsz, by
                          refine RowR.ve (w := w) (O := Owns O0 ι H) (ι := ι) ?_ he (heap_alloc_new w.drew _)
                          rw [← List.append_assoc]
                          exact (ho2.append hrow ho1).more, fun h => by cases h⟩)
                    refine ⟨_, this.1, this.2, V.own_iff.2 ⟨⟨w.heap.size, 0, (olds ++ (ys ++ rest)).length, i.size⟩, cap, by simp [upd], rfl, by simp, by simpa using hsz, hcap2, fun k h => by cases h⟩⟩
            · cases h
          · cases h
        · -- deep
          rename_i s l cap
          split at h
          · rename_i hb
            obtain ⟨rfl, hb1, hb2⟩ := hb
            obtain ⟨a, c, rfl, hlc, hcap, hr⟩ := V.dsl_iff.1 hd
            split at h
            · cases h
              have hys : ys = [] := List.eq_nil_of_length_eq_zero (by simpa using hyl)
              refine ⟨.slice a l.length c, w, ?_, wrote_none hI hd⟩
              have hl0 := hlen cfg.P w
              have hf0 := hfirst1 w rfl
              simp only [List.length_nil] at hl0 hf0
              subst hys
              rcases hxt with ⟨e', hxt⟩ | hxt <;> cases a <;> simp [Builtin.append_, run_underlying hdt, run_underlying hxt, sizeOf, typeInfo, hi, hl0, hf0, hlc, storeCells]
            · rename_i hne
              split at h
              · rename_i c'
                obtain rfl := hcap c' rfl
                split at h <;> cases h
                rename_i hlt
                rcases hr with rfl | ⟨b, o, rfl, _, hVE⟩
                · have := grow a 0 c [] [] (by simp) rfl (fun m p h => by simp at h) (fun w2 hw => by cases a <;> simp [Builtin.firstCells, loadCells, loadCellsFrom]) (by simpa using hlt) (by simpa using hb2) (by simpa using hb1)
                  simpa using this
                · obtain ⟨olds, ho1, ho2, ho3, _⟩ := hVE.row
                  have hold : ∀ w2 : World, w2.heap = w.heap → (Builtin.firstCells i.size l.length (.slice (some ⟨b, o, none⟩) l.length c)).run cfg.P w2 = .ok olds.toArray w2 := fun w2 hw => by
                    have := run_first_row (P := cfg.P) (n := l.length) (c := c) (by rw [ho1]; exact Nat.le_refl _) ho3 w2 hw
                    rwa [List.take_of_length_le (by rw [ho1]; exact Nat.le_refl _)] at this
                  exact grow _ _ _ _ olds ho1 rfl (fun m p hp => by
                    obtain ⟨y, hy, r⟩ := ho2 m p hp
                    exact ⟨y, hy.lift, r⟩) hold hlt hb2 hb1
              · cases h
          · cases h
        · cases h
      · cases h
    · cases h
  · cases h
end
end Go.Proofs.YthabndifdgafbaaGreatDoor.RV
end
section
set_option linter.constructorNameAsVariable false
namespace Go.Proofs.YthabndifdgafbaaGreatDoor.RV
open Go.RowKit (Below)
section
variable {cfg : Cfg} {O0 : Nat → Prop} {ι : Iota} {H : Heap} {w : World} {env : Env} {ρ : Operand → Value} {O : Nat → Prop}
theorem copyA_sound {dt xt ty e : TypeId} {d x p : PV} {dv xv : Value} {dl : Delta} (hI : Inv cfg O0 ι H w)
    (hdt : cfg.P.underlying dt = some (.slice e)) (hd : V w (Owns O0 ι H) ι d dv) (hx : V w (Owns O0 ι H) ι x xv) (h : copyA cfg.P H e d x = some (p, dl)) :
    ∃ y w', (Builtin.copy_ #[dt, xt] ty #[dv, xv]).run cfg.P w = .ok y w' ∧ Wrote cfg O0 ι H w p dl y w' := by
  unfold copyA at h
  split at h
  · rename_i i hi
    have zero : ∀ (xs : List PV) (a : Option Addr) (c : Nat), elemsOf H i.size x = some xs → dv = .slice a 0 c → ∃ y w', (Builtin.copy_ #[dt, xt] ty #[dv, xv]).run cfg.P w = .ok y w' ∧ Wrote cfg O0 ι H w (.lit (.int .i64 0)) [] y w' := by
      intro xs a c hxs hdv
      obtain ⟨ys, hyl, hrow, hlen, hfirst, hone⟩ := elemsOf_sound hI hx hxs
      have hl0 := hlen cfg.P w
      have hf0 := hfirst cfg.P 0 (Nat.zero_le _) w rfl
      simp only [Nat.zero_mul, List.take_zero] at hf0
      refine ⟨.int .i64 0, w, ?_, wrote_none hI (V.lit_iff.2 rfl)⟩
      subst hdv
      cases a <;> simp [Builtin.copy_, run_underlying hdt, hl0, sizeOf, typeInfo, hi, hf0, goInt, storeCells]
    split at h
    · rename_i xs id ver s off len cap hxs
      split at h
      · rename_i s' l ho
        split at h <;> cases h
        rename_i hc
        obtain ⟨rfl, rfl, hle, hsz, hsc⟩ := hc
        have hgk := obj_spec ho
        obtain ⟨ys, hyl, hrow, hlen, hfirst, hone⟩ := elemsOf_sound hI hx hxs
        obtain ⟨L, c, hL, hs, rfl, hce, hlc, hcap⟩ := V.own_iff.1 hd
        obtain ⟨L', hL', _, ⟨cs, ct, fz, hcs, hcesz, hfz⟩, hlen2, hVE, _⟩ := hI.obj _ _ _ hgk
        rw [hL] at hL'
        cases hL'
        have hn : min xs.length len ≤ xs.length := Nat.min_le_left _ _
        have hf := hfirst cfg.P (min xs.length len) hn w rfl
        have htk : (ys.take (min xs.length len * i.size)).length = min xs.length len * i.size := by
          rw [List.length_take, hyl]
          exact Nat.min_eq_left (Nat.mul_le_mul_right _ hn)
        have hrow2 : RowR w (Owns O0 ι H) ι i.size (ys.take (min xs.length len * i.size)).toArray (xs.take (min xs.length len)) := by
          intro m q hq
          rw [List.getElem?_take] at hq
          split at hq
          · rename_i hm
            obtain ⟨y, hy, hys, hget⟩ := hrow m q hq
            refine ⟨y, hy, hys, fun j z hz => ?_⟩
            have hj : j < i.size := by have := (List.getElem?_eq_some_iff.1 hz).1; simpa [hys] using this
            have hm2 : (m + 1) * i.size ≤ min xs.length len * i.size := Nat.mul_le_mul_right _ hm
            rw [Nat.add_mul, Nat.one_mul] at hm2
            rw [List.getElem?_toArray, List.getElem?_take, if_pos (by omega)]
            simpa using hget j z hz
          · cases hq
        have hxl : (xs.take (min xs.length len)).length = min xs.length len := by simp
        have hm3 : (off + min xs.length len) * i.size ≤ l.length * i.size := Nat.mul_le_mul_right _ (by omega)
        rw [Nat.add_mul] at hm3
        have hst := run_storeCells_fz cfg.P L.b (L.base + off * i.size) L.ce ct fz hfz.2 (ys.take (min xs.length len * i.size)) 0 cs w hcs (by rw [htk]; omega) hcesz (fun v hv => hone hsc v (List.mem_of_mem_take hv))
        simp only [Nat.add_zero] at hst
        have hr : (Builtin.copy_ #[dt, xt] ty #[.slice (some ⟨L.b, L.base + off * i.size, none⟩) len c, xv]).run cfg.P w = .ok (.int .i64 (min xs.length len : Nat))
            (w.setRow L.b (cs.toList.take (L.base + off * i.size) ++ ys.take (min xs.length len * i.size) ++ cs.toList.drop (L.base + off * i.size + (ys.take (min xs.length len * i.size)).length)).toArray) := by
          have hf' : (Builtin.firstCells i.size (Nat.min xs.length len) xv).run cfg.P w = .ok (ys.take (min xs.length len * i.size)).toArray w := hf
          simp only [Builtin.copy_, List.getElem?_toArray, List.getElem?_cons_zero, List.getElem?_cons_succ, Sem.run_bind, run_underlying hdt, Result.andThen_ok, hlen, sizeOf, typeInfo, program, Sem.run, hi, Sem.run_pure, hf']
          rw [hst]
          rfl
        refine ⟨_, _, hr, ?_⟩
        have := hI.write (cs' := (cs.toList.take (L.base + off * i.size) ++ ys.take (min xs.length len * i.size) ++ cs.toList.drop (L.base + off * i.size + (ys.take (min xs.length len * i.size)).length)).toArray)
          (l' := l.take off ++ (xs.take (min xs.length len) ++ l.drop (off + min xs.length len))) hgk hL hcs
          (by simp only [List.size_toArray, List.length_append, List.length_take, List.length_drop, Array.length_toList, hyl]
              have hm4 : min xs.length len * i.size ≤ xs.length * i.size := Nat.mul_le_mul_right _ hn
              omega)
          (by
            simp only [List.length_append, List.length_take, List.length_drop]
            rw [show min off l.length + (min (min xs.length len) xs.length + (l.length - (off + min xs.length len))) = l.length by omega]
            exact hlen2)
          (fun O' ι' he => by
            have := VE.overwrite (t' := 0) hVE hcs hrow2 (by rw [htk, hxl]) (by rw [htk]; omega) (by omega) _ rfl he (Nat.zero_le _)
            simpa [hxl] using this)
        exact ⟨ι, this.1, this.2, V.lit_iff.2 rfl⟩
      · cases h
    · rename_i xs hxs
      cases h
      exact zero _ _ _ hxs (V.lit_iff.1 hd)
    · rename_i xs s cap hxs
      cases h
      obtain ⟨a, c, hdv, _⟩ := V.dsl_iff.1 hd
      exact zero _ a c hxs hdv
    · cases h
  · cases h
theorem Inv.putObj {k ver : Nat} {o o' : HObj} {L : Loc} {b : Obj} {w' : World} (hI : Inv cfg O0 ι H w) (hg : H.get k = some (ver, o)) (hl : o.live = true) (hL : ι k ver = some L)
    (hw : w' = { w with heap := w.heap.setIfInBounds L.b b })
    (hobj : ∀ O' ι', Ext w (Owns O0 ι H) ι w' O' ι' → w'.heap[L.b]? = some b → ObjR w' O' ι' L o') :
    Inv cfg O0 ι (H.put k (ver, o')) w' ∧ Step ι H w ι (H.put k (ver, o')) w' := by
  subst hw
  obtain ⟨L2, hL2, ho⟩ := hI.obj _ _ _ hg
  rw [hL] at hL2
  cases hL2
  have hlt := ho.lt
  have := Inv.set (L' := L) (o' := o') (ver' := ver) (w' := { w with heap := w.heap.setIfInBounds L.b b }) hI (upd_self hL).symm (fun v o h => by rw [hg] at h; cases h; exact Nat.le_refl _) (fun L' h => by rw [hL] at h; cases h; rfl) rfl rfl rfl
    (by simp) (fun b' hb hne => by simp [Ne.symm hne]) (.inr ⟨ver, _, L, hg, hl, hL, rfl⟩)
    (fun he => hobj _ _ he (by simp [hlt]))
  exact this
theorem keyStays {P : Program} {a b : Value} (h : Instr.sameBits 10000 a b = true) (w : World) : (Instr.keyThatStays a b).run P w = .ok b w := by
  simp [Instr.keyThatStays, h]
theorem VL.set {l : List PV} {xs : List Value} (h : VL w O ι l xs) {p : PV} {x : Value} (hx : V w O ι p x) (i : Nat) : VL w O ι (l.set i p) (xs.set i x) := by
  induction l generalizing xs i with
  | nil => rw [VL.nil_iff] at h; subst h; exact VL.nil_iff.2 rfl
  | cons q l ih =>
    obtain ⟨y, ys, rfl, hy, hs⟩ := VL.cons_iff.1 h
    cases i with
    | zero => exact VL.cons hx hs
    | succ i => exact VL.cons hy (ih hs i)
theorem updateA_sound {t : TypeId} {m v : PV} {mv k vv : Value} {dl : Delta} (hI : Inv cfg O0 ι H w) (hm : V w (Owns O0 ι H) ι m mv) (hv : V w (Owns O0 ι H) ι v vv) (h : updateA cfg.P H t m k v = some dl) :
    ∃ w', (Instr.mapUpdate t mv k vv).run cfg.P w = .ok () w' ∧ Wrote cfg O0 ι H w undefP dl undef w' := by
  have hun : ∀ w O ι, V w O ι undefP undef := fun w O ι => V.tup_iff.2 ⟨#[], rfl, VL.nil_iff.2 rfl⟩
  unfold updateA at h
  split at h
  · rename_i kt vt hu
    split at h
    · rename_i id ver
      split at h
      · rename_i ks vs bs clock ho
        split at h
        · rename_i hkey
          have hgk := obj_spec ho
          simp only [V] at hm
          obtain ⟨L, hL, rfl⟩ := hm
          obtain ⟨L', hL', ents, hb, hk, hbs, hvl⟩ := hI.obj _ _ _ hgk
          rw [hL] at hL'
          cases hL'
          have hkr := keyOk_spec hkey w
          unfold findE at h
          cases hp : pureRun cfg.P (Instr.findKey kt k (entsOf ks bs)) with
          | none => rw [hp] at h; cases h
          | some r =>
            have hrel := findKey_rel (es' := ents.toList) (by rw [entsOf_keys (by rw [hk, hbs]; simp), hk]) hp
            rw [hp] at h
            rcases hrel with ⟨rfl, hpr⟩ | ⟨i, u, e', rfl, he', hpr⟩
            · simp only at h
              cases h
              refine ⟨{ w with heap := w.heap.setIfInBounds L.b (.map (ents.push { key := k, val := vv, born := clock }) (clock + 1)) }, ?_, ?_⟩
              · simp [Instr.mapUpdate, run_underlying hu, getObj, setObj, Sem.run, hb, hkr, pureRun_sound hpr]
              · have := hI.putObj (b := .map (ents.push { key := k, val := vv, born := clock }) (clock + 1)) (o' := .mp (ks ++ [k]) (vs ++ [v]) (bs ++ [clock]) (clock + 1)) hgk rfl hL rfl (fun O' ι' he hb' => ⟨_, hb', by simp [hk], by simp [hbs], by
                  have := (VL.mono he _ _ hvl).append (VL.cons (V.mono he _ _ hv) (VL.nil_iff.2 rfl))
                  simpa using this⟩)
                exact ⟨ι, this.1, this.2, hun _ _ _⟩
            · simp only at h
              split at h
              · rename_i k0 hk0
                split at h <;> cases h
                rename_i hsame
                have hek : e'.key = k0 := by
                  rw [hk, List.getElem?_map, he'] at hk0
                  exact Option.some.inj hk0
                have hents : ents[i]? = some e' := by simpa using he'
                refine ⟨{ w with heap := w.heap.setIfInBounds L.b (.map (ents.modify i fun e => { e with key := k, val := vv }) clock) }, ?_, ?_⟩
                · simp [Instr.mapUpdate, run_underlying hu, getObj, setObj, Sem.run, hb, hkr, pureRun_sound hpr, hents, hek, keyStays hsame]
                · have := hI.putObj (b := .map (ents.modify i fun e => { e with key := k, val := vv }) clock) (o' := .mp (ks.set i k) (vs.set i v) bs clock) hgk rfl hL rfl (fun O' ι' he hb' => ⟨_, hb', by
                      rw [hk]
                      apply List.ext_getElem?
                      intro j
                      simp only [List.getElem?_set, List.getElem?_map, Array.getElem?_toList, Array.getElem?_modify, List.length_map, Array.length_toList]
                      by_cases hij : i = j
                      · subst hij
                        simp [hents]
                        exact (Array.getElem?_eq_some_iff.1 hents).1
                      · simp [hij], by
                      rw [hbs]
                      apply List.ext_getElem?
                      intro j
                      simp only [List.getElem?_map, Array.getElem?_toList, Array.getElem?_modify]
                      by_cases hij : i = j
                      · subst hij
                        simp [hents]
                      · simp [hij], by
                      have := VL.set (VL.mono he _ _ hvl) (V.mono he _ _ hv) i
                      have e : (ents.toList.map (·.val)).set i vv = (ents.modify i fun e => { e with key := k, val := vv }).toList.map (·.val) := by
                        apply List.ext_getElem?
                        intro j
                        simp only [List.getElem?_set, List.getElem?_map, Array.getElem?_toList, Array.getElem?_modify, List.length_map, Array.length_toList]
                        by_cases hij : i = j
                        · subst hij
                          simp [hents]
                          exact (Array.getElem?_eq_some_iff.1 hents).1
                        · simp [hij]
                      rw [← e]
                      exact this⟩)
                  exact ⟨ι, this.1, this.2, hun _ _ _⟩
              · cases h
        · cases h
      · cases h
    · cases h
  · cases h
end
end Go.Proofs.YthabndifdgafbaaGreatDoor.RV
end
section
set_option linter.constructorNameAsVariable false
namespace Go.Proofs.YthabndifdgafbaaGreatDoor.RV
open Go.RowKit (Below)
inductive ZR (w : World) (O : Nat → Prop) (ι : Iota) : List (Value × PV × Nat) → List MapEntry → Prop
  | nil : ZR w O ι [] []
  | cons {v : PV} {e : MapEntry} {zs : List (Value × PV × Nat)} {es : List MapEntry} : V w O ι v e.val → ZR w O ι zs es → ZR w O ι ((e.key, v, e.born) :: zs) (e :: es)
theorem freeze_eq {w : World} {b n : Nat} {cs : Array Value} {t : TypeId} {lo hi : Nat} (h : w.heap[b]? = some (.cells cs t (lo, hi))) :
    w.freeze ⟨b, n, none⟩ 1 = { w with heap := w.heap.setIfInBounds b (.cells cs t (if lo == hi then (n, n + 1) else (min lo n, max hi (n + 1)))) } := by
  unfold World.freeze
  rw [if_neg (by decide)]
  have : w.heap.modify b (fun x => match x with
      | .cells c elem (lo, hi) => .cells c elem (if lo == hi then (n, n + 1) else (min lo n, max hi (n + 1)))
      | o => o) = w.heap.setIfInBounds b (.cells cs t (if lo == hi then (n, n + 1) else (min lo n, max hi (n + 1)))) := by
    apply Array.ext_getElem?
    intro j
    rw [Array.getElem?_modify, Array.getElem?_setIfInBounds]
    by_cases hj : b = j
    · subst hj
      have hlt := (Array.getElem?_eq_some_iff.1 h).1
      rw [if_pos rfl, if_pos rfl, if_pos hlt, h]
      rfl
    · rw [if_neg hj, if_neg hj]
  exact congrArg (fun h => { w with heap := h }) this
theorem CellsAt.again {w w' : World} {b o : Nat} {ys : List Value} {cs : Array Value} {t t' : TypeId} {fz fz' : Nat × Nat} (h : CellsAt w b o ys) (hb : w.heap[b]? = some (.cells cs t fz)) (hb' : w'.heap[b]? = some (.cells cs t' fz')) : CellsAt w' b o ys := by
  obtain ⟨cs2, t2, f2, h1, h2⟩ := h
  rw [hb] at h1
  cases h1
  exact ⟨cs, t', fz', hb', h2⟩
theorem VE.again {w w' : World} {O O' : Nat → Prop} {ι ι' : Iota} {s b : Nat} {cs : Array Value} {t t' : TypeId} {fz fz' : Nat × Nat} : ∀ {l : List PV} {o : Nat}, VE w O ι s b o l → Ext w O ι w' O' ι' → w.heap[b]? = some (.cells cs t fz) → w'.heap[b]? = some (.cells cs t' fz') → VE w' O' ι' s b o l
  | [], _, _, _, _, _ => by simp only [VE]
  | p :: ps, o, h, he, hb, hb' => by
    simp only [VE] at h ⊢
    obtain ⟨⟨y, hy, hs, hc⟩, hps⟩ := h
    exact ⟨⟨y, V.mono he _ _ hy, hs, hc.again hb hb'⟩, VE.again hps he hb hb'⟩
section
variable {cfg : Cfg} {O0 : Nat → Prop} {ι : Iota} {H : Heap} {w : World} {env : Env} {ρ : Operand → Value} {O : Nat → Prop}
theorem ZR.of : ∀ {ents : List MapEntry} {ks : List Value} {vs : List PV} {bs : List Nat}, ks = ents.map (·.key) → bs = ents.map (·.born) → VL w O ι vs (ents.map (·.val)) → ZR w O ι (ks.zip (vs.zip bs)) ents
  | [], ks, vs, bs, hk, hb, hv => by subst hk hb; simp; exact .nil
  | e :: ents, ks, vs, bs, hk, hb, hv => by
    subst hk hb
    simp only [List.map_cons] at hv
    cases vs with
    | nil =>
      rw [VL.nil_iff] at hv
      cases hv
    | cons v vs =>
      obtain ⟨y, ys, he, hy, hys⟩ := VL.cons_iff.1 hv
      cases he
      simp only [List.map_cons, List.zip_cons_cons]
      exact .cons hy (ZR.of rfl rfl hys)
theorem ZR.filter (f : Nat → Bool) {zs : List (Value × PV × Nat)} {es : List MapEntry} (h : ZR w O ι zs es) : ZR w O ι (zs.filter fun e => f e.2.2) (es.filter fun e => f e.born) := by
  induction h with
  | nil => exact .nil
  | @cons v e zs es hv _ ih =>
    simp only [List.filter_cons]
    split
    · exact .cons hv ih
    · exact ih
theorem ZR.nil_inv {es : List MapEntry} (h : ZR w O ι [] es) : es = [] := by cases h; rfl
theorem ZR.one_inv {k : Value} {v : PV} {b : Nat} {es : List MapEntry} (h : ZR w O ι [(k, v, b)] es) : ∃ e, es = [e] ∧ e.key = k ∧ e.born = b ∧ V w O ι v e.val := by
  cases h with
  | cons hv hr => cases hr; exact ⟨_, rfl, rfl, rfl, hv⟩
def Does (r : Result Next) (x : Value) (w' : World) : Prop := r = .ok (.value x) w' ∨ (r = .ok .skip w' ∧ x = undef)
theorem does_u {P : Program} {s : Sem Unit} {w' : World} (h : s.run P w = .ok () w') : Does ((do s; pure .skip : Sem Next).run P w) undef w' := .inr ⟨by simp [h], rfl⟩
theorem nextMap_run {P : Program} {r m : Nat} {ents : Array MapEntry} {clock since stepped : Nat} {seen : List Nat} {ty : TypeId} (hr : w.heap[r]? = some (.mapIter (some m) since seen.toArray stepped)) (hm : w.heap[m]? = some (.map ents clock))
    (hgo : (!seen.isEmpty && !ents.toList.isEmpty && ents.toList.all (fun e => decide (e.born ≥ stepped))) = false) :
    let left := ents.toList.filter fun e => !seen.contains e.born
    let old := left.filter fun e => decide (e.born < since)
    let new := left.filter fun e => decide (e.born ≥ since)
    (old = [] → new = [] → (Instr.next (.pointer (some ⟨r, 0, none⟩)) false ty).run P w = .ok (.tuple #[.bool false]) w) ∧
    (∀ e, old = [e] → new = [] → (Instr.next (.pointer (some ⟨r, 0, none⟩)) false ty).run P w = .ok (.tuple #[.bool true, e.key, e.val]) { w with heap := w.heap.setIfInBounds r (.mapIter (some m) since (seen ++ [e.born]).toArray clock) }) := by
  intro left old new
  have hgo' : (!seen.toArray.isEmpty && !ents.isEmpty && ents.all (fun e => decide (e.born ≥ stepped))) = false := by
    rw [← hgo]
    cases ents with | mk l => simp
  have hold : (((ents.filter fun e => !seen.toArray.contains e.born)).filter fun e => decide (e.born < since)) = old.toArray := by
    apply Array.ext'
    simp [old, left]
  have hnew : (((ents.filter fun e => !seen.toArray.contains e.born)).filter fun e => decide (e.born ≥ since)) = new.toArray := by
    apply Array.ext'
    simp [new, left]
  have base : ∀ (x : Result Value), ((do match ((if old.toArray.isEmpty then #[none] else #[]) ++ (old.toArray ++ new.toArray).map some)[← choose (.mapNext ((if old.toArray.isEmpty then #[none] else #[]) ++ (old.toArray ++ new.toArray).map some).size)]? with
      | some (some e) =>
        setObj r (.mapIter (some m) since (seen.toArray.push e.born) clock)
        pure (.tuple #[.bool true, e.key, e.val])
      | some none => pure (.tuple #[.bool false])
      | none => stuck "Next: no such candidate" : Sem Value)).run P w = x → (Instr.next (.pointer (some ⟨r, 0, none⟩)) false ty).run P w = x := by
    intro x hx
    rw [← hx]
    unfold Instr.next
    simp only [getObj, Sem.run_bind, Sem.run, hr, Result.andThen_ok, hm, hgo', Bool.false_eq_true, if_false]
    rw [hold, hnew]
    rfl
  refine ⟨fun h1 h2 => base _ ?_, fun e h1 h2 => base _ ?_⟩
  · rw [h1, h2]
    simp [choose, Sem.run, Question.forced]
  · rw [h1, h2]
    simp [choose, Sem.run, Question.forced, setObj, hr]
theorem aopWrite_sound {o : Oper} {p : PV} {d : Delta} {fresh : Nat} (hI : Inv cfg O0 ι H w) (hn : H.get fresh = none) (hE : ∀ x q, evO cfg env x = some q → V w (Owns O0 ι H) ι q (ρ x))
    (h : aopWrite cfg env H o fresh = some (p, d)) : ∃ x w', Does ((execOp ρ o).run cfg.P w) x w' ∧ Wrote cfg O0 ι H w p d x w' := by
  obtain ⟨dst, op, ty, pos, after, guard⟩ := o
  cases op
  case store t a x =>
    simp only [aopWrite] at h
    split at h
    · rename_i q v hq hv
      split at h <;> cases h
      rename_i dl hs
      obtain ⟨w', hr, hw⟩ := storeA_sound hI (hE a _ hq) (hE x _ hv) hs
      exact ⟨_, w', does_u hr, hw⟩
    · cases h
  case call c =>
    simp only [aopWrite] at h
    obtain ⟨callee, args, argTypes⟩ := c
    cases callee
    case value f => cases h
    case invoke r m => cases h
    case builtin b =>
      cases b
      case append =>
        simp only at h
        split at h
        · rename_i dd x dt xt hargs htys
          have hargs' : args = #[dd, x] := by simpa using congrArg List.toArray hargs
          have htys' : argTypes = #[dt, xt] := by simpa using congrArg List.toArray htys
          subst hargs' htys'
          have fin : ∀ {e : TypeId} {q q' : PV}, cfg.P.underlying dt = some (.slice e) → notInt cfg.P xt → evO cfg env dd = some q → evO cfg env x = some q' → appendA cfg.P H e fresh q q' = some (p, d) →
              ∃ y w', Does ((execOp ρ ⟨dst, .call ⟨.builtin .append, #[dd, x], #[dt, xt]⟩, ty, pos, after, guard⟩).run cfg.P w) y w' ∧ Wrote cfg O0 ι H w p d y w' := by
            intro e q q' h1 h2 h3 h4 h5
            obtain ⟨y, w', hr, hw⟩ := appendA_sound (ty := ty) hI hn h1 h2 (hE dd _ h3) (hE x _ h4) h5
            exact ⟨y, w', .inl (by simp [execOp, resolve, invoke, builtin, hr]), hw⟩
          split at h
          · rename_i e e' q q' h1 h2 h3 h4
            exact fin h1 (.inl ⟨e', h2⟩) h3 h4 h
          · rename_i e q q' h1 h2 h3 h4
            exact fin h1 (.inr h2) h3 h4 h
          · cases h
        · cases h
      case copy =>
        simp only at h
        split at h
        · rename_i dd x dt xt hargs htys
          have hargs' : args = #[dd, x] := by simpa using congrArg List.toArray hargs
          have htys' : argTypes = #[dt, xt] := by simpa using congrArg List.toArray htys
          subst hargs' htys'
          split at h
          · rename_i e q q' h1 h3 h4
            obtain ⟨y, w', hr, hw⟩ := copyA_sound (xt := xt) (ty := ty) hI h1 (hE dd _ h3) (hE x _ h4) h
            exact ⟨y, w', .inl (by simp [execOp, resolve, invoke, builtin, hr]), hw⟩
          · cases h
        · cases h
      all_goals cases h
  case mapUpdate t m k x =>
    simp only [aopWrite] at h
    split at h
    · rename_i q qk qv hq hqk hqv
      split at h
      · rename_i kv hkv
        split at h <;> cases h
        rename_i dl hu
        obtain rfl := toVal_sound qk (hE k _ hqk) hkv
        obtain ⟨w', hr, hw⟩ := updateA_sound hI (hE m _ hq) (hE x _ hqv) hu
        exact ⟨_, w', does_u hr, hw⟩
      · cases h
    · cases h
  case insert t m k x =>
    simp only [aopWrite] at h
    split at h
    · rename_i q qk qv hq hqk hqv
      split at h
      · rename_i kv hkv
        split at h <;> cases h
        rename_i dl hu
        obtain rfl := toVal_sound qk (hE k _ hqk) hkv
        obtain ⟨w', hr, hw⟩ := updateA_sound hI (hE m _ hq) (hE x _ hqv) hu
        exact ⟨_, w', does_u hr, hw⟩
      · cases h
    · cases h
  case next it isString =>
    simp only [aopWrite] at h
    split at h
    · rename_i id ver hit
      split at h
      · rename_i s pos' ho
        have hgk := obj_spec ho
        have hx := hE it _ hit
        simp only [V] at hx
        obtain ⟨L, hL, hxx⟩ := hx
        obtain ⟨L', hL', hb⟩ := hI.obj _ _ _ hgk
        rw [hL] at hL'
        cases hL'
        have hb : w.heap[L.b]? = some (.stringIter s pos') := hb
        split at h
        · rename_i hlt
          cases h
          refine ⟨.tuple #[.bool true, goInt pos', .int .i32 (Utf8.decode s pos').1], { w with heap := w.heap.setIfInBounds L.b (.stringIter s (pos' + (Utf8.decode s pos').2)) }, .inl (run_v (s := Instr.next (ρ it) true ty) ?_), ?_⟩
          · rw [hxx]
            simp [Instr.next, getObj, setObj, Sem.run, hb, hlt]
          · have := hI.putObj (b := .stringIter s (pos' + (Utf8.decode s pos').2)) (o' := .str s (pos' + (Utf8.decode s pos').2)) hgk rfl hL rfl (fun O' ι' he hb' => hb')
            exact ⟨ι, this.1, this.2, V.tup_iff.2 ⟨_, rfl, VL.cons (V.lit_iff.2 rfl) (VL.cons (V.lit_iff.2 rfl) (VL.cons (V.lit_iff.2 rfl) (VL.nil_iff.2 rfl)))⟩⟩
        · rename_i hlt
          cases h
          refine ⟨.tuple #[.bool false], w, .inl (run_v (s := Instr.next (ρ it) true ty) ?_), wrote_none hI (V.tup_iff.2 ⟨_, rfl, VL.cons (V.lit_iff.2 rfl) (VL.nil_iff.2 rfl)⟩)⟩
          rw [hxx]
          simp [Instr.next, getObj, Sem.run, hb, hlt]
      · cases h
    · rename_i id ver hit
      split at h
      · rename_i m since seen stepped ho
        have hgk := obj_spec ho
        have hx := hE it _ hit
        simp only [V] at hx
        obtain ⟨L, hL, hxx⟩ := hx
        obtain ⟨L', hL', mr, hb, hmr⟩ := hI.obj _ _ _ hgk
        rw [hL] at hL'
        cases hL'
        split at h
        · rename_i ks vs bs clock hm
          have hM := mapOf_sound hI hmr hm
          rcases hM with ⟨hmn, rfl, rfl, rfl, rfl⟩ | ⟨mb, ents, hmn, hme, hks, hbs, hvl⟩
          · cases hmn
            have hnx : nextOf [] [] [] since seen stepped = some none := by simp [nextOf]
            rw [hnx] at h
            simp only at h
            cases h
            refine ⟨.tuple #[.bool false], w, .inl (run_v (s := Instr.next (ρ it) false ty) ?_), wrote_none hI (V.tup_iff.2 ⟨_, rfl, VL.cons (V.lit_iff.2 rfl) (VL.nil_iff.2 rfl)⟩)⟩
            rw [hxx]
            simp [Instr.next, getObj, Sem.run, hb]
          · cases hmn
            have hZ := ZR.of hks hbs hvl
            cases hnx : nextOf ks vs bs since seen stepped with
            | none => rw [hnx] at h; simp at h
            | some r =>
              rw [hnx] at h
              unfold nextOf at hnx
              split at hnx
              · cases hnx
              rename_i hgo
              have hgo' : (!seen.isEmpty && !ents.toList.isEmpty && ents.toList.all (fun e => decide (e.born ≥ stepped))) = false := by
                have : (!seen.isEmpty && !bs.isEmpty && bs.all (fun b => decide (b ≥ stepped))) = false := by simpa using hgo
                rw [hbs] at this
                rw [← this]
                simp [List.all_map, Function.comp_def]
              have hrun := nextMap_run (P := cfg.P) (ty := ty) hb hme hgo'
              have hleft := hZ.filter (fun b => !seen.contains b)
              have hold := hleft.filter (fun b => decide (b < since))
              have hnew := hleft.filter (fun b => decide (b ≥ since))
              simp only at hnx hrun
              split at hnx <;> cases hnx
              · rename_i h1 h2
                simp only at h
                cases h
                rw [h1] at hold
                rw [h2] at hnew
                refine ⟨.tuple #[.bool false], w, .inl (run_v (s := Instr.next (ρ it) false ty) ?_), wrote_none hI (V.tup_iff.2 ⟨_, rfl, VL.cons (V.lit_iff.2 rfl) (VL.nil_iff.2 rfl)⟩)⟩
                rw [hxx]
                exact hrun.1 hold.nil_inv hnew.nil_inv
              · rename_i e h1 h2
                obtain ⟨k, v, b⟩ := e
                simp only at h
                cases h
                rw [h1] at hold
                rw [h2] at hnew
                obtain ⟨e, he, rfl, rfl, hev⟩ := hold.one_inv
                refine ⟨_, _, .inl (run_v (s := Instr.next (ρ it) false ty) (by rw [hxx]; exact hrun.2 e he hnew.nil_inv)), ?_⟩
                have := hI.putObj (b := .mapIter (some mb) since (seen ++ [e.born]).toArray clock) (o' := .mit m since (seen ++ [e.born]) clock) hgk rfl hL rfl (fun O' ι' hext hb' => ⟨some mb, hb', V.mono hext _ _ hmr⟩)
                exact ⟨ι, this.1, this.2, V.tup_iff.2 ⟨_, rfl, VL.cons (V.lit_iff.2 rfl) (VL.cons (V.ofVal1 _) (VL.cons (V.mono this.2.ext _ _ hev) (VL.nil_iff.2 rfl)))⟩⟩
        · cases h
      · cases h
    · cases h
  case convert src dt x =>
    simp only [aopWrite] at h
    split at h
    · rename_i e id ver s off len cap hsd hu hq
      have hsd := Nat.eq_of_beq_eq_true hsd
      subst hsd
      split at h
      · rename_i s' l he ho
        cases h
        have hgk := obj_spec ho
        obtain ⟨L, c, hL, hs, hxx, hce, hlc, hcap⟩ := V.own_iff.1 (hE x _ hq)
        obtain ⟨L', hL', hs', ⟨cs, ct, fz, hcs, hcesz, hfz⟩, hlen2, hVE, hlive⟩ := hI.obj _ _ _ hgk
        rw [hL] at hL'
        cases hL'
        obtain ⟨lo, hi⟩ := fz
        have hrun : (convert src src (ρ x)).run cfg.P w = .ok (ρ x) (w.freeze ⟨L.b, cs.size, none⟩ 1) := by
          have hsh : w.shape? L.b = some (ct, cs.size) := by unfold World.shape?; rw [hcs]
          rw [hxx]
          simp [convert, run_underlying hu, run_underlying he, markStringish, shape, Sem.run, hsh, freeze]
        refine ⟨ρ x, _, .inl (run_v (s := convert src src (ρ x)) hrun), ?_⟩
        rw [freeze_eq hcs]
        have := hI.putObj (b := .cells cs ct (if lo == hi then (cs.size, cs.size + 1) else (min lo cs.size, max hi (cs.size + 1)))) (o' := .blk s' l true) hgk rfl hL rfl (fun O' ι' hext hb' =>
          ⟨hs', ⟨cs, ct, _, hb', hcesz, by
            have h1 := hfz.1
            have h2 := hfz.2 lo (Nat.le_refl _)
            dsimp only at h1 h2
            by_cases hlh : lo = hi
            · subst hlh
              rw [if_pos (by simp)]
              exact ⟨Nat.le_succ _, fun i h3 _ => by dsimp only at h3; omega⟩
            · rw [if_neg (by simpa using hlh)]
              have h2 := h2 (by omega)
              exact ⟨by dsimp only; omega, fun i h3 _ => by dsimp only at h3; omega⟩⟩, hlen2, hVE.again hext hcs hb', fun h => by cases h⟩)
        exact ⟨ι, this.1, this.2, V.mono this.2.ext _ _ (hE x _ hq)⟩
      · cases h
    · cases h
  case range t x =>
    simp only [aopWrite] at h
    split at h
    · rename_i q hmt hq
      split at h <;> cases h
      rename_i ks vs bs clock hm
      have hu : ∃ a b, cfg.P.underlying t = some (.map a b) := by
        unfold isMapT at hmt
        split at hmt
        · rename_i a b hab; exact ⟨a, b, hab⟩
        · cases hmt
      obtain ⟨a, b, hu⟩ := hu
      have hV := hE x _ hq
      have hM := mapOf_sound hI hV hm
      have fin : ∀ mr, ρ x = .map mr → (Instr.range t (ρ x)).run cfg.P w = .ok (.pointer (some ⟨w.heap.size, 0, none⟩)) (w.alloc (.mapIter mr clock #[] clock)) →
          ∃ y w', Does ((execOp ρ ⟨dst, .range t x, ty, pos, after, guard⟩).run cfg.P w) y w' ∧ Wrote cfg O0 ι H w (.iter fresh 0) [(fresh, 0, .mit q clock [] clock)] y w' := by
        intro mr hmr hr
        refine ⟨_, _, .inl (run_v hr), ?_⟩
        have := Inv.new (L := ⟨w.heap.size, 0, 0, 0⟩) (ob := .mit q clock [] clock) (p := .iter fresh 0) (x := .pointer (some ⟨w.heap.size, 0, none⟩)) hI hn (Grown.alloc w (.mapIter mr clock #[] clock)) (Nat.le_refl _)
          (fun O' ι' he _ hL => ⟨by simp only [V]; exact ⟨_, hL, rfl⟩, mr, heap_alloc_new w _, by have := V.mono he _ _ hV; rwa [hmr] at this⟩)
        exact ⟨_, this.1, this.2.1, this.2.2⟩
      rcases hM with ⟨hmn, rfl, rfl, rfl, rfl⟩ | ⟨mb, ents, hmn, hme, _⟩
      · exact fin none hmn (by rw [hmn]; simp [Instr.range, run_underlying hu, newObj, Sem.run])
      · exact fin (some mb) hmn (by rw [hmn]; simp [Instr.range, run_underlying hu, newObj, getObj, Sem.run, hme])
    · cases h
  all_goals (simp only [aopWrite] at h; cases h)
end
end Go.Proofs.YthabndifdgafbaaGreatDoor.RV
end
section
set_option linter.constructorNameAsVariable false
namespace Go.Proofs.YthabndifdgafbaaGreatDoor.RV
open Go.RowKit (Below)
section
variable {cfg : Cfg} {O0 : Nat → Prop} {ι : Iota} {H : Heap} {w : World} {env : Env} {O : Nat → Prop} {D : List Deferred}
theorem VL.of_get : ∀ {l : List PV} {xs : List Value}, xs.length = l.length → (∀ (i : Nat) (p : PV), l[i]? = some p → ∃ x, xs[i]? = some x ∧ V w O ι p x) → VL w O ι l xs
  | [], xs, h, _ => VL.nil_iff.2 (List.eq_nil_of_length_eq_zero h)
  | p :: ps, [], h, _ => by simp at h
  | p :: ps, x :: xs, h, hg => by
    obtain ⟨y, hy, hv⟩ := hg 0 p (by simp)
    simp at hy
    subst hy
    exact VL.cons hv (VL.of_get (by simpa using h) fun i q hq => by simpa using hg (i + 1) q (by simpa using hq))
theorem deepenL_get : ∀ (k : Nat) {l l' : List PV}, deepenL H k l = some l' → l'.length = l.length ∧ ∀ (i : Nat) (p' : PV), l'[i]? = some p' → ∃ p k', k' < k ∧ l[i]? = some p ∧ deepen H k' p = some p'
  | 0, l, l', h => by
    unfold deepenL at h
    split at h <;> cases h
    exact ⟨rfl, fun i p' h => by simp at h⟩
  | k + 1, l, l', h => by
    unfold deepenL at h
    split at h
    · cases h; exact ⟨rfl, fun i p' h => by simp at h⟩
    · rename_i p ps
      split at h
      · rename_i q hq
        split at h <;> cases h
        rename_i qs hqs
        obtain ⟨h1, h2⟩ := deepenL_get k hqs
        refine ⟨by simp [h1], fun i p' hp => ?_⟩
        cases i with
        | zero => simp at hp; subst hp; exact ⟨p, k, by omega, by simp, hq⟩
        | succ i =>
          obtain ⟨p2, k', hk, h3, h4⟩ := h2 i p' (by simpa using hp)
          exact ⟨p2, k', by omega, by simpa using h3, h4⟩
      · cases h
theorem deepen_sound (hI : Inv cfg O0 ι H w) : ∀ (k : Nat) {p p' : PV} {x : Value}, V w (Owns O0 ι H) ι p x → deepen H k p = some p' → V w O0 iota0 p' x := by
  intro k
  induction k using Nat.strongRecOn with
  | _ k ih =>
    intro p p' x hv h
    have hL : ∀ {k'} {l l' : List PV} {xs : List Value}, k' < k → VL w (Owns O0 ι H) ι l xs → deepenL H k' l = some l' → VL w O0 iota0 l' xs := by
      intro k' l l' xs hk hl hd
      obtain ⟨h1, h2⟩ := deepenL_get k' hd
      refine VL.of_get (by rw [h1]; exact hl.length) fun i q hq => ?_
      obtain ⟨q0, k2, hk2, h3, h4⟩ := h2 i q hq
      obtain ⟨y, hy, hVy⟩ := hl.get i q0 h3
      exact ⟨y, hy, ih k2 (by omega) hVy h4⟩
    have deep : ∀ {q : PV}, V w (Owns O0 ι H) iota0 q x → V w O0 iota0 q x := fun h => h.anti fun b hb => .inl hb
    have notO : ∀ {id ver : Nat} {s : Nat} {l : List PV} {live : Bool} {L : Loc}, H.get id = some (ver, .blk s l live) → ι id ver = some L → ObjR w (Owns O0 ι H) ι L (.blk s l live) → ¬ O0 L.b := by
      intro id ver s l live L hg hL ho hO
      cases live with
      | true => exact (hI.foreign _ hO).2 ⟨id, ver, _, L, hg, rfl, hL, rfl⟩
      | false =>
        obtain ⟨_, _, _, _, h5⟩ := ho
        exact h5 rfl (.inl hO)
    cases k with
    | zero => simp [deepen] at h
    | succ k =>
      unfold deepen at h
      split at h
      · cases h; exact V.lit_iff.2 (V.lit_iff.1 hv)
      · cases h; exact deep (by simp only [V] at hv ⊢; exact hv)
      · cases h; exact deep (by simp only [V] at hv ⊢; exact hv)
      · split at h <;> cases h
        rename_i l' hl'
        obtain ⟨xs, rfl, hl⟩ := V.agg_iff.1 hv
        exact V.agg_iff.2 ⟨xs, rfl, hL (by omega) hl hl'⟩
      · split at h <;> cases h
        rename_i l' hl'
        obtain ⟨xs, rfl, hl⟩ := V.tup_iff.1 hv
        exact V.tup_iff.2 ⟨xs, rfl, hL (by omega) hl hl'⟩
      · split at h <;> try cases h
        rename_i a' ha'
        split at h <;> cases h
        rename_i l' hl'
        obtain ⟨ys, xs, rfl, ha, hl⟩ := V.clo_iff.1 hv
        exact V.clo_iff.2 ⟨ys, xs, rfl, hL (by omega) ha ha', hL (by omega) hl hl'⟩
      · split at h <;> cases h
        rename_i v' hv'
        simp only [V] at hv ⊢
        obtain ⟨y, rfl, hy⟩ := hv
        exact ⟨y, rfl, ih k (by omega) hy hv'⟩
      · rename_i id ver s off len cap
        split at h
        · rename_i s' l live ho
          split at h <;> try cases h
          rename_i hc
          obtain ⟨rfl, hle⟩ := hc
          split at h <;> cases h
          rename_i l' hl'
          have hgk := obj_spec ho
          obtain ⟨L, c, hLL, hs, rfl, hce, hlc, hcap⟩ := V.own_iff.1 hv
          obtain ⟨L', hL', hob⟩ := hI.obj _ _ _ hgk
          rw [hLL] at hL'
          cases hL'
          have hno := notO hgk hLL hob
          obtain ⟨_, _, _, hVE, _⟩ := hob
          obtain ⟨h1, h2⟩ := deepenL_get k hl'
          have hlen : l'.length = len := by rw [h1]; simp; omega
          refine V.dsl_iff.2 ⟨some ⟨L.b, L.base + off * s, none⟩, c, by rw [hlen], by omega, hcap, .inr ⟨_, _, rfl, hno, VE.of_get fun i q hq => ?_⟩⟩
          obtain ⟨q0, k2, hk2, h3, h4⟩ := h2 i q hq
          obtain ⟨y, hy, hys, hc⟩ := ((hVE.drop off).take len).get i q0 h3
          exact ⟨y, ih k2 (by omega) hy h4, hys, hc⟩
        · cases h
      · rename_i id ver idx off
        split at h
        · rename_i s l live ho
          split at h
          · rename_i e he
            split at h <;> cases h
            rename_i l' hl'
            have hgk := obj_spec ho
            obtain ⟨L, hLL, rfl⟩ := V.ptr_iff.1 hv
            obtain ⟨L', hL', hob⟩ := hI.obj _ _ _ hgk
            rw [hLL] at hL'
            cases hL'
            have hno := notO hgk hLL hob
            obtain ⟨hs, _, _, hVE, _⟩ := hob
            obtain ⟨y, hy, _, hc⟩ := hVE.get idx e he
            rw [hs]
            exact V.dptr_iff.2 ⟨L.b, L.base + idx * s, _, rfl, hno, hc, hL (by omega) hy.cells hl'⟩
          · cases h
        · cases h
      · rename_i id ver
        split at h
        · rename_i ks vs bs clock ho
          split at h <;> cases h
          rename_i vs' hvs'
          have hgk := obj_spec ho
          simp only [V] at hv ⊢
          obtain ⟨L, hLL, rfl⟩ := hv
          obtain ⟨L', hL', ents, hb, hk, hbs, hvl⟩ := hI.obj _ _ _ hgk
          rw [hLL] at hL'
          cases hL'
          exact ⟨L.b, ents, rfl, fun hO => (hI.foreign _ hO).2 ⟨id, ver, _, L, hgk, rfl, hLL, rfl⟩, hb, hk, hbs, hL (by omega) hvl hvs'⟩
        · cases h
      · cases h; exact deep (by simp only [V] at hv ⊢; exact hv)
      · cases h
theorem deepenL_sound (hI : Inv cfg O0 ι H w) {k : Nat} {l l' : List PV} {xs : List Value} (hl : VL w (Owns O0 ι H) ι l xs) (h : deepenL H k l = some l') : VL w O0 iota0 l' xs := by
  obtain ⟨h1, h2⟩ := deepenL_get k h
  refine VL.of_get (by rw [h1]; exact hl.length) fun i q hq => ?_
  obtain ⟨q0, k2, hk2, h3, h4⟩ := h2 i q hq
  obtain ⟨y, hy, hVy⟩ := hl.get i q0 h3
  exact ⟨y, hy, deepen_sound hI k2 hVy h4⟩
mutual
theorem flatB_sound {w' : World} {O' : Nat → Prop} {ι' : Iota} : ∀ (p : PV) {x : Value}, V w O ι p x → flatB p = true → V w' O' ι' p x
  | .lit _, _, h, _ => by simp only [V] at h ⊢; exact h
  | .agg l, _, h, hd => by
    obtain ⟨xs, rfl, hl⟩ := V.agg_iff.1 h
    exact V.agg_iff.2 ⟨xs, rfl, flatL_sound l hl (by simpa [flatB] using hd)⟩
  | .tup l, _, h, hd => by
    obtain ⟨xs, rfl, hl⟩ := V.tup_iff.1 h
    exact V.tup_iff.2 ⟨xs, rfl, flatL_sound l hl (by simpa [flatB] using hd)⟩
  | .clo .., _, _, hd => by simp [flatB] at hd
  | .iface .., _, _, hd => by simp [flatB] at hd
  | .dsl .., _, _, hd => by simp [flatB] at hd
  | .dptr .., _, _, hd => by simp [flatB] at hd
  | .dmap .., _, _, hd => by simp [flatB] at hd
  | .own .., _, _, hd => by simp [flatB] at hd
  | .ptr .., _, _, hd => by simp [flatB] at hd
  | .map .., _, _, hd => by simp [flatB] at hd
  | .iter .., _, _, hd => by simp [flatB] at hd
  | .asl .., _, _, hd => by simp [flatB] at hd
theorem flatL_sound {w' : World} {O' : Nat → Prop} {ι' : Iota} : ∀ (l : List PV) {xs : List Value}, VL w O ι l xs → flatL l = true → VL w' O' ι' l xs
  | [], _, h, _ => by rw [VL.nil_iff] at h ⊢; exact h
  | p :: ps, _, h, hd => by
    obtain ⟨y, ys, rfl, hy, hs⟩ := VL.cons_iff.1 h
    simp only [flatL, Bool.and_eq_true] at hd
    exact VL.cons (flatB_sound p hy hd.1) (flatL_sound ps hs hd.2)
end
def Ex.conv : Ex → Exit
  | .normal => .normal
  | .exit id => .exit id
  | .ret => .ret
theorem envOf_get : ∀ (ps : List PV) (i : Nat) (e : Env), i + ps.length ≤ 16000000 → ∀ t, (envOf ps i e).get t = if i ≤ t ∧ t < i + ps.length then ps[t - i]? else e.get t
  | [], i, e, _, t => by simp only [envOf]; rw [if_neg (by simp)]
  | p :: ps, i, e, h, t => by
    simp only [List.length_cons] at h
    simp only [envOf, List.length_cons]
    rw [envOf_get ps (i + 1) _ (by omega) t, put_get]
    by_cases h1 : t = i
    · subst h1
      rw [if_neg (by omega), if_pos rfl, if_pos (by omega)]
      simp
    · by_cases h2 : i + 1 ≤ t ∧ t < i + 1 + ps.length
      · rw [if_pos h2, if_pos (by omega), show t - i = t - (i + 1) + 1 by omega, List.getElem?_cons_succ]
      · rw [if_neg h2, if_neg h1, if_neg (by omega)]
def codeOK (cfg : Cfg) (cur : FuncId) (drawOK : Cfg → FuncId → Array Oper → Bool) : Code → Bool
  | .region id ops d => !d || (cfg.bad cur id || drawOK cfg cur ops)
  | .seq a b | .cond _ a b => codeOK cfg cur drawOK a && codeOK cfg cur drawOK b
  | .block _ b | .loop b | .scope b => codeOK cfg cur drawOK b
  | _ => true
def fnOK (cfg : Cfg) (drawOK : Cfg → FuncId → Array Oper → Bool) (f : FuncId) : Bool :=
  match cfg.P.funcs[f]? with
  | some fn => fn.name != "runtime.NumGoroutine" && (match fn.body with | some c => codeOK cfg f drawOK c | none => false)
  | none => false
structure Base (cfg : Cfg) (O : Nat → Prop) (w : World) : Prop where
  lt : ∀ b, O b → b < w.heap.size
  glob : ∀ g l, cfg.glob g = some l → V w O iota0 (.dptr l 0) (.pointer (some ⟨g, 0, none⟩))
  low : ∀ b, b < cfg.gl → b < w.heap.size ∧ ¬ O b
  ginv : cfg.ginv w
theorem Inv.base (hI : Inv cfg O0 ι H w) : Base cfg (Owns O0 ι H) w := ⟨fun _ hb => hI.owns_lt hb, hI.glob, hI.low, hI.ginv⟩
theorem Inv.base0 (hI : Inv cfg O0 ι H w) : Base cfg O0 w :=
  ⟨fun b hb => (hI.foreign b hb).1, fun g l hg => (hI.glob g l hg).anti fun _ hb => .inl hb, fun b hb => ⟨(hI.low b hb).1, fun h => (hI.low b hb).2 (.inl h)⟩, hI.ginv⟩
structure CfgOK (cfg : Cfg) (drawOK : Cfg → FuncId → Array Oper → Bool) : Prop where
  mixed : cfg.P.follows .mixedOrders = true
  fn : ∀ f, cfg.fns f = true → fnOK cfg drawOK f = true
  told : ∀ f, (cfg.mode f = 3 ∨ cfg.mode f = 4) → ∃ fn, cfg.P.funcs[f]? = some fn ∧ fn.name ≠ "runtime.NumGoroutine" ∧ fn.body.isSome = true
  spec : ∀ f args p, (cfg.mode f = 3 ∨ cfg.mode f = 4) → cfg.spec f args = some p → ∀ (w : World) (O : Nat → Prop) (vals : List Value), Base cfg O w → VL w O iota0 args vals →
    Calls cfg.P f vals.toArray w fun e w' => ∃ x, e = .returned x ∧ Grown w w' ∧ V w' O iota0 p x
  quiet : ∀ g, cfg.quiet g = true → ∀ (vals : Array Value) (w : World), (callFunc g vals).run cfg.P w = .ok (.enter g vals) w ∧ CallsD cfg.P g vals .returning w fun e u w' => (∃ v, e = .returned v) ∧ u = .returning ∧ w' = w
theorem leaves_quiet {drawOK : Cfg → FuncId → Array Oper → Bool} (hC : CfgOK cfg drawOK) {fn : Func} {tmps : Array Value} {R : Ending → World → Prop} {v : Value} (hr : (results fn tmps).run cfg.P w = .ok v w) (h : R (.returned v) w) : ∀ ds : List Deferred, (∀ d ∈ ds, quietD cfg d) → Leaves cfg.P fn tmps R ds .returning w
  | [], _ => ⟨v, hr, h⟩
  | ⟨t, a⟩ :: ds, hq => by
    obtain ⟨g, xs, ht, hg⟩ := hq ⟨t, a⟩ (by simp)
    simp only at ht
    subst ht
    obtain ⟨h1, h2⟩ := hC.quiet g hg (a ++ xs) w
    refine leaves_cons (by simp) h1 (h2.mono ?_)
    rintro e u w' ⟨⟨x, hx⟩, hu, hw⟩
    have ih := leaves_quiet hC hr h ds fun d hd => hq d (by simp [hd])
    rw [hx, hu, hw]
    exact ih
def XOK (cfg : Cfg) (drawOK : Cfg → FuncId → Array Oper → Bool) (X : Run) : Prop :=
  ∀ cur c s e s', codeOK cfg cur drawOK c = true → X cur c s = some (e, s') → ∀ {D : List Deferred} (O0 : Nat → Prop) (ι : Iota) (a : Act) (w : World), Rel cfg D O0 ι s a w →
    c.wp cfg.P (fun ex a' w' => ex = e.conv ∧ ∃ ι', Rel cfg D O0 ι' s' a' w' ∧ Step ι s.H w ι' s'.H w') a w
def resSem (a : Act) : ResultVar → Sem Value
  | .tmp t => pure (a.tmps.getD t undef)
  | .cell c t => do loadVar t (← asAddr (a.tmps.getD c undef))
theorem resOne_sound {s : St} {a : Act} {r : ResultVar} {p : PV} (hR : Rel cfg D O0 ι s a w) (h : resOne cfg.P s r = some p) :
    ∃ x, (resSem a r).run cfg.P w = .ok x w ∧ V w (Owns O0 ι s.H) ι p x := by
  cases r with
  | tmp t =>
    simp only [resOne, Option.some.injEq] at h
    subst h
    exact ⟨_, rfl, hR.env t⟩
  | cell c t =>
    simp only [resOne] at h
    obtain ⟨ad, y, hx, hr, hv⟩ := loadA_sound hR.inv (hR.env c) h
    refine ⟨y, ?_, hv⟩
    show (do loadVar t (← asAddr (a.tmps.getD c undef)) : Sem Value).run cfg.P w = .ok y w
    rw [hx]
    simp [asAddr, hr]
theorem resAll_sound {s : St} {a : Act} (hR : Rel cfg D O0 ι s a w) : ∀ {rs : List ResultVar} {ps : List PV}, resAll cfg.P s rs = some ps →
    ∃ xs, (rs.mapM (resSem a)).run cfg.P w = .ok xs w ∧ VL w (Owns O0 ι s.H) ι ps xs
  | [], ps, h => by simp only [resAll, Option.some.injEq] at h; subst h; exact ⟨[], by simp, VL.nil_iff.2 rfl⟩
  | r :: rs, ps, h => by
    unfold resAll at h
    split at h
    · rename_i p hp
      split at h <;> cases h
      rename_i qs hqs
      obtain ⟨x, hx, hv⟩ := resOne_sound hR hp
      obtain ⟨xs, hxs, hvs⟩ := resAll_sound hR hqs
      refine ⟨x :: xs, ?_, VL.cons hv hvs⟩
      rw [List.mapM_cons]
      simp only [Sem.run_bind, hx, Result.andThen_ok, hxs, Sem.run_pure]
    · cases h
theorem results_eq {fn : Func} {a : Act} : results fn a.tmps = (do let vs ← fn.results.mapM (resSem a); pure (if h : vs.size = 1 then vs[0] else .tuple vs)) := by
  unfold results
  congr
theorem resA_sound {fn : Func} {s : St} {a : Act} {p : PV} (hR : Rel cfg D O0 ι s a w) (h : resA cfg.P s fn.results.toList = some p) : ∃ x, (results fn a.tmps).run cfg.P w = .ok x w ∧ V w (Owns O0 ι s.H) ι p x := by
  unfold resA at h
  have key : ∀ {ps : List PV}, resAll cfg.P s fn.results.toList = some ps → ∃ xs : List Value, VL w (Owns O0 ι s.H) ι ps xs ∧ (results fn a.tmps).run cfg.P w = .ok (if h : xs.toArray.size = 1 then xs.toArray[0] else .tuple xs.toArray) w := by
    intro ps hps
    obtain ⟨xs, hxs, hvs⟩ := resAll_sound hR hps
    refine ⟨xs, hvs, ?_⟩
    rw [results_eq, Sem.run_bind, Array.mapM_eq_mapM_toList, Sem.run_map, hxs]
    rfl
  split at h
  · rename_i q hq
    cases h
    obtain ⟨xs, hvs, hr⟩ := key hq
    obtain ⟨y, ys, rfl, hy, hys⟩ := VL.cons_iff.1 hvs
    rw [VL.nil_iff] at hys
    subst hys
    exact ⟨y, by rw [hr]; rfl, hy⟩
  · rename_i l hne hl
    cases h
    obtain ⟨xs, hvs, hr⟩ := key hl
    have hne' : ¬ xs.toArray.size = 1 := by
      simp
      intro h1
      rw [hvs.length] at h1
      match l, h1 with
      | [q], _ => exact hne q rfl
    exact ⟨.tuple xs.toArray, by rw [hr, dif_neg hne'], V.tup_iff.2 ⟨_, rfl, by simpa using hvs⟩⟩
  · cases h
theorem callA_sound {drawOK : Cfg → FuncId → Array Oper → Bool} {X : Run} (hC : CfgOK cfg drawOK) (hX : XOK cfg drawOK X) {f : FuncId} {args : List PV} {vals : List Value} {p : PV} {H' : Heap} {m m' : Nat} (hI : Inv cfg O0 ι H w)
    (hargs : VL w (Owns O0 ι H) ι args vals) (h : callA cfg X f args H m = some (p, H', m')) :
    Calls cfg.P f vals.toArray w fun e w' => ∃ x ι', e = .returned x ∧ Inv cfg O0 ι' H' w' ∧ Step ι H w ι' H' w' ∧ V w' (Owns O0 ι' H') ι' p x := by
  unfold callA at h
  split at h
  · cases h
  rename_i hfns
  split at h
  · cases h
  rename_i fn hfn
  split at h
  · cases h
  rename_i c hbody
  split at h <;> try cases h
  rename_i hnt
  split at h
  · cases h
  · rename_i e s hne hrun
    split at h <;> cases h
    rename_i hres
    have hok := hC.fn f hfns
    unfold fnOK at hok
    rw [hfn] at hok
    simp only [hbody, Bool.and_eq_true] at hok
    have hlen := hargs.length
    have hrel : Rel cfg [] O0 ι ⟨envOf args 0 .e, H, m, fn.ntmps⟩ { tmps := vals.toArray ++ Array.replicate (fn.ntmps - vals.toArray.size) undef, defers := [] } w := by
      refine ⟨hI, fun t => ?_, by simp; omega, hnt.2, fun d hd => by cases hd⟩
      show V w (Owns O0 ι H) ι (Env.at (envOf args 0 .e) t) _
      unfold Env.at
      rw [envOf_get args 0 .e (by omega) t]
      have hund : V w (Owns O0 ι H) ι undefP undef := V.tup_iff.2 ⟨#[], rfl, VL.nil_iff.2 rfl⟩
      by_cases ht : @LT.lt Nat _ t args.length
      · rw [if_pos (by omega)]
        obtain ⟨x, hx, hv⟩ := hargs.get t args[t] (List.getElem?_eq_getElem ht)
        have e1 : args[t - 0]? = some args[t] := by simp [ht]
        rw [e1]
        have e2 : (vals.toArray ++ Array.replicate (fn.ntmps - vals.toArray.size) undef).getD t undef = x := by
          rw [Array.getD_eq_getD_getElem?, Array.getElem?_append_left (by simp; omega)]
          simp [hx]
        rw [e2]
        exact hv
      · rw [if_neg (by omega)]
        have e2 : (vals.toArray ++ Array.replicate (fn.ntmps - vals.toArray.size) undef).getD t undef = undef := by
          rw [Array.getD_eq_getD_getElem?, Array.getElem?_append_right (by simp; omega), Array.getElem?_replicate]
          split <;> rfl
        rw [e2]
        exact hund
    refine calls_of_wp_defers hfn hbody (Code.wp_mono ?_ (hX f c _ e s hok.2 hrun O0 ι _ w hrel))
    rintro ex a' w' ⟨rfl, ι', hR', hS⟩
    obtain ⟨x, hx, hv⟩ := resA_sound hR' hres
    cases e with
    | exit id => exact (hne id rfl).elim
    | normal => exact leaves_quiet hC hx ⟨x, ι', rfl, hR'.inv, hS, hv⟩ _ hR'.defers
    | ret => exact leaves_quiet hC hx ⟨x, ι', rfl, hR'.inv, hS, hv⟩ _ hR'.defers
  · cases h
theorem Inv.empty (hB : Base cfg O w) : Inv cfg O iota0 .e w where
  obj := fun id ver o h => by cases h
  inj := fun id id' ver ver' o o' L L' h => by cases h
  foreign := fun b hb => ⟨hB.lt b hb, fun ⟨id, ver, o, L, h, _⟩ => by cases h⟩
  glob := fun g l h => (hB.glob g l h).anti fun b hb => hb.elim id fun ⟨id, ver, o, L, h, _⟩ => by cases h
  fresh := fun id v L h => by cases h
  low := fun b hb => ⟨(hB.low b hb).1, fun h => h.elim (hB.low b hb).2 fun ⟨id, ver, o, L, h, _⟩ => by cases h⟩
  ginv := hB.ginv
theorem Step.grown0 {w' : World} {ι' : Iota} {H' : Heap} (h : Step iota0 .e w ι' H' w') : Grown w w' :=
  ⟨h.os, h.tape, h.output, h.size, fun b hb => h.keep b hb fun ⟨id, ver, o, L, h, _⟩ => by cases h⟩
theorem callPure_sound {drawOK : Cfg → FuncId → Array Oper → Bool} {X : Run} (hC : CfgOK cfg drawOK) (hX : XOK cfg drawOK X) {f : FuncId} {args : List PV} {vals : List Value} {p : PV} (hB : Base cfg O w)
    (hargs : VL w O ι args vals) (h : callPure cfg X f args = some p) :
    Calls cfg.P f vals.toArray w fun e w' => ∃ x, e = .returned x ∧ Grown w w' ∧ V w' O iota0 p x := by
  unfold callPure at h
  split at h
  · cases h
  rename_i hd
  split at h
  · rename_i q H m hcall
    have hI := Inv.empty hB
    have hargs' : VL w (Owns O iota0 .e) iota0 args vals := VL.mono (O := O) ⟨fun b _ hb => ⟨fun hh => hb (hh.elim id fun ⟨id, ver, o, L, h, _⟩ => by cases h), rfl⟩, fun _ _ _ h => h⟩ _ _ (deepL_sound args hargs hd)
    refine (callA_sound hC hX hI hargs' hcall).mono ?_
    rintro e w' ⟨x, ι', rfl, hI', hS, hv⟩
    exact ⟨x, rfl, hS.grown0, deepen_sound hI' fuelD hv h⟩
  · cases h
end
end Go.Proofs.YthabndifdgafbaaGreatDoor.RV
end
section
set_option linter.constructorNameAsVariable false
namespace Go.Proofs.YthabndifdgafbaaGreatDoor.RV
open Go.RowKit (Below)
section
variable {cfg : Cfg} {O0 : Nat → Prop} {ι : Iota} {w : World} {s : St} {a : Act} {D : List Deferred}
theorem evO_sound (hR : Rel cfg D O0 ι s a w) : ∀ x q, evO cfg s.env x = some q → V w (Owns O0 ι s.H) ι q (a.eval x) := by
  intro x q h
  cases x with
  | tmp t => simp only [evO, Option.some.injEq] at h; subst h; exact hR.env t
  | const v => simp only [evO, Option.some.injEq] at h; subst h; exact V.ofVal v
  | global g =>
    simp only [evO] at h
    split at h <;> cases h
    rename_i l hl
    exact (hR.inv.glob g l hl).lift
  | func f =>
    simp only [evO, Option.some.injEq] at h
    subst h
    exact V.clo_iff.2 ⟨#[], #[], rfl, VL.nil_iff.2 rfl, VL.nil_iff.2 rfl⟩
theorem V.bool {O : Nat → Prop} {p : PV} {b : Bool} (h : V w O ι p (.bool b)) : p = .lit (.bool b) := by
  cases p with
  | lit v => obtain rfl := V.lit_iff.1 h; rfl
  | _ => simp [V] at h
theorem yield_eq (hR : Rel cfg D O0 ι s a w) (ops : Array Oper) (j : Nat) : yielded ops a.tmps j = yieldA s.env ops j := by
  unfold yielded yieldA
  cases ho : ops[j]? with
  | none => rfl
  | some o =>
    cases hd : o.dst with
    | none => simp [hd]
    | some d =>
      have hv := hR.env d
      simp only [Option.bind_some, hd]
      have e : a.tmps.getD d undef = (a.tmps[d]?).getD undef := by simp
      rw [e] at hv
      cases ht : a.tmps[d]? with
      | none =>
        rw [ht] at hv
        simp only [Option.getD_none] at hv
        split
        · rename_i h; cases h
        · split
          · rename_i b hb
            rw [hb] at hv
            have := V.lit_iff.1 hv
            simp [undef] at this
          · rfl
      | some x =>
        rw [ht] at hv
        simp only [Option.getD_some] at hv
        cases x with
        | bool b =>
          rw [V.bool hv]
        | _ =>
          simp only
          split
          · rename_i b hb
            rw [hb] at hv
            have := V.lit_iff.1 hv
            cases this
          · rfl
theorem want_eq (hR : Rel cfg D O0 ι s a w) (ops : Array Oper) (o : Oper) : Region.wanted o (yielded ops a.tmps) = wantA s.env ops o := by
  unfold Region.wanted wantA
  cases o.guard with
  | none => rfl
  | some g =>
    simp only [yield_eq hR]
    cases yieldA s.env ops g.1 <;> simp
theorem wp_value {o : Oper} {x : Value} {w' : World} {K : Act → World → Prop} {Q : Exit → Act → World → Prop} {P : Program} (h : (execOp a.eval o).run P w = .ok (.value x) w') (hK : K (a.put o.dst x) w') : o.wp P a w K Q := by
  unfold Oper.wp
  rw [h]
  exact hK
theorem wp_does {o : Oper} {x : Value} {w' : World} {K : Act → World → Prop} {Q : Exit → Act → World → Prop} {P : Program} (h : Does ((execOp a.eval o).run P w) x w') (hK : K (a.put o.dst x) w') : o.wp P a w K Q := by
  unfold Oper.wp
  rcases h with h | ⟨h, rfl⟩ <;> rw [h] <;> exact hK
theorem wp_call {o : Oper} {g : FuncId} {args : Array Value} {K : Act → World → Prop} {Q : Exit → Act → World → Prop} {P : Program} {Φ : Value → World → Prop} (h : (execOp a.eval o).run P w = .ok (.enter g args) w)
    (hc : Calls P g args w fun e w' => ∃ x, e = .returned x ∧ Φ x w') (hK : ∀ x w', Φ x w' → K (a.put o.dst x) w') : o.wp P a w K Q := by
  unfold Oper.wp
  rw [h]
  exact hc.mono fun e w' ⟨x, he, hx⟩ => by subst he; exact hK x w' hx
theorem run_enter {P : Program} {g : FuncId} {fn : Func} {args : Array Value} (hf : P.funcs[g]? = some fn) (hn : fn.name ≠ "runtime.NumGoroutine") (hb : fn.body.isSome = true) : (callFunc g args).run P w = .ok (.enter g args) w := by
  obtain ⟨c, hc⟩ := Option.isSome_iff_exists.1 hb
  simp [callFunc, program, Sem.run, hf, hn, hc]
variable {drawOK : Cfg → FuncId → Array Oper → Bool} {X : Run}
theorem enter_fn (hC : CfgOK cfg drawOK) {g : FuncId} {args : Array Value} (h : cfg.fns g = true) : (callFunc g args).run cfg.P w = .ok (.enter g args) w := by
  have hok := hC.fn g h
  unfold fnOK at hok
  split at hok
  · rename_i fn hfn
    simp only [Bool.and_eq_true, bne_iff_ne, ne_eq] at hok
    refine run_enter hfn hok.1 ?_
    cases hb : fn.body with
    | none => rw [hb] at hok; simp at hok
    | some c => rfl
  · cases hok
theorem callA_fns {f : FuncId} {args : List PV} {H : Heap} {m : Nat} {r : PV × Heap × Nat} (h : callA cfg X f args H m = some r) : cfg.fns f = true := by
  unfold callA at h
  split at h
  · cases h
  · rename_i h'; simpa using h'
theorem callPure_fns {f : FuncId} {args : List PV} {p : PV} (h : callPure cfg X f args = some p) : cfg.fns f = true := by
  unfold callPure at h
  split at h
  · cases h
  · split at h
    · rename_i hc; exact callA_fns hc
    · cases h
theorem run_callee {o : Oper} {g : FuncId} {xs : List Operand} (h : callee? o.op = some (g, xs)) : (execOp a.eval o).run cfg.P w = (callFunc g (xs.map a.eval).toArray).run cfg.P w := by
  obtain ⟨dst, op, ty, pos, after, guard⟩ := o
  cases op <;> simp only [callee?] at h <;> try cases h
  rename_i c
  obtain ⟨callee, args, argTypes⟩ := c
  cases callee <;> simp only at h <;> try cases h
  rename_i f
  cases f <;> simp only at h <;> cases h
  have e : (args.toList.map a.eval).toArray = args.map a.eval := by apply Array.ext'; simp
  rw [e]
  simp [execOp, resolve, Deferred.ofValue, Act.eval, invoke]
theorem pureCall_sound (hC : CfgOK cfg drawOK) (hX : XOK cfg drawOK X) {f : FuncId} {args : List PV} {vals : List Value} {p : PV} {O : Nat → Prop} (hB : Base cfg O w)
    (hargs : VL w O ι args vals) (h : pureCall cfg X f args = some p) :
    (Calls cfg.P f vals.toArray w fun e w' => ∃ x, e = .returned x ∧ (Grown w w' ∧ V w' O iota0 p x)) ∧ ∀ args, (callFunc f args).run cfg.P w = .ok (.enter f args) w := by
  unfold pureCall at h
  split at h
  · exact ⟨callPure_sound hC hX hB hargs h, fun args => enter_fn hC (callPure_fns h)⟩
  · exact ⟨callPure_sound hC hX hB hargs h, fun args => enter_fn hC (callPure_fns h)⟩
  · rename_i hm
    split at h
    · rename_i hd
      obtain ⟨fn, h1, h2, h3⟩ := hC.told f (.inl hm)
      exact ⟨hC.spec f args p (.inl hm) h w O vals hB (deepL_sound args hargs hd), fun args => run_enter h1 h2 h3⟩
    · cases h
  · rename_i hm
    split at h
    · rename_i hd
      obtain ⟨fn, h1, h2, h3⟩ := hC.told f (.inr hm)
      exact ⟨hC.spec f args p (.inr hm) h w O vals hB (deepL_sound args hargs hd), fun args => run_enter h1 h2 h3⟩
    · cases h
  · cases h
theorem newOf_sound (hC : CfgOK cfg drawOK) (hX : XOK cfg drawOK X) (hR : Rel cfg D O0 ι s a w) {o : Oper} {p : PV} {ob : HObj} {id : Nat} {K : Act → World → Prop} {Q : Exit → Act → World → Prop} (h : newOf cfg X s.env o id = some (p, some ob))
    (hK : ∀ x w' L, Grown w w' → w.heap.size ≤ L.b → (∀ O' ι', Ext w (Owns O0 ι s.H) ι w' O' ι' → (∀ b, O' b → Owns O0 ι s.H b ∨ b = L.b) → ι' id 0 = some L → V w' O' ι' p x ∧ ObjR w' O' ι' L ob) → K (a.put o.dst x) w') : o.wp cfg.P a w K Q := by
  unfold newOf at h
  split at h
  · rename_i g xs hcal
    split at h
    · rename_i args hargs
      have hvals := evOs_sound (evO_sound hR) hargs
      unfold importA at h
      split at h
      · cases h
      rename_i hd
      split at h
      · rename_i i v s1 off len cap H1 m1 hcall
        split at h
        · rename_i s2 l1 ho
          split at h <;> cases h
          rename_i hc
          obtain ⟨rfl, rfl, rfl, hdl⟩ := hc
          have hI := Inv.empty hR.inv.base
          have hargs' : VL w (Owns (Owns O0 ι s.H) iota0 .e) iota0 args (xs.map a.eval) := VL.mono (O := Owns O0 ι s.H) ⟨fun b _ hb => ⟨fun hh => hb (hh.elim (fun h => h) fun ⟨id, ver, o, L, h, _⟩ => by cases h), rfl⟩, fun _ _ _ h => h⟩ _ _ (deepL_sound args hvals hd)
          refine wp_call (Φ := fun x w' => ∃ L, Grown w w' ∧ w.heap.size ≤ L.b ∧ ∀ O' ι', Ext w (Owns O0 ι s.H) ι w' O' ι' → (∀ b, O' b → Owns O0 ι s.H b ∨ b = L.b) → ι' id 0 = some L → V w' O' ι' (.own id 0 s1 0 l1.length cap) x ∧ ObjR w' O' ι' L (.blk s1 l1 true)) ?_ ((callA_sound hC hX hI hargs' hcall).mono ?_) ?_
          · rw [run_callee hcal, enter_fn hC (callA_fns hcall)]
          · rintro e w' ⟨x, ι1, rfl, hI1, hS, hv⟩
            refine ⟨x, rfl, ?_⟩
            have hgr := hS.grown0
            have hgk := obj_spec ho
            obtain ⟨L, c, hL, hs, rfl, hce, hlc, hcap⟩ := V.own_iff.1 hv
            obtain ⟨L', hL', hs', hcells, hlen, hVE, _⟩ := hI1.obj _ _ _ hgk
            rw [hL] at hL'
            cases hL'
            have hown : Own ι1 H1 L.b := ⟨i, v, _, L, hgk, rfl, hL, rfl⟩
            have hge : w.heap.size ≤ L.b := (hS.grow _ hown).elim (fun ⟨id, ver, o, L, h, _⟩ => by cases h) (fun h => h)
            refine ⟨L, hgr, hge, fun O' ι' he hO' hL2 => ⟨V.own_iff.2 ⟨L, c, hL2, hs, rfl, hce, hlc, hcap⟩, hs', hcells, hlen, ?_, fun h => by cases h⟩⟩
            refine VE.of_get fun j q hq => ?_
            obtain ⟨y, hy, hys, hc⟩ := hVE.get j q hq
            refine ⟨y, ?_, hys, hc⟩
            have hdq : deepB q = true := by
              have : ∀ (l : List PV), deepL l = true → ∀ q ∈ l, deepB q = true := by
                intro l
                induction l with
                | nil => intro _ q h; cases h
                | cons a l ih =>
                  intro h q hq
                  simp only [deepL, Bool.and_eq_true] at h
                  rcases List.mem_cons.1 hq with rfl | hq
                  · exact h.1
                  · exact ih h.2 q hq
              exact this l1 hdl q (List.mem_of_getElem? hq)
            refine V.mono (O := Owns (Owns O0 ι s.H) ι1 H1) (ι := iota0) ⟨fun b hb hO2 => ⟨fun hh => hO2 ?_, rfl⟩, fun _ _ _ h => by cases h⟩ _ _ (deepB_sound q hy hdq)
            rcases hO' b hh with h | h
            · exact .inl h
            · rw [h]; exact .inr hown
          · rintro x w' ⟨L, h1, h2, h3⟩
            exact hK x w' L h1 h2 h3
        · cases h
      · cases h
      · cases h
    · cases h
  · split at h <;> cases h
    rename_i h
    obtain ⟨x, w', L, hr, hg, hb, _, hR2⟩ := aopNew_sound (evO_sound hR) h
    exact wp_value hr (hK x w' L hg (by omega) fun O' ι' he _ hL => hR2 O' ι' he hL)
theorem newOf_nil_sound (hC : CfgOK cfg drawOK) (hX : XOK cfg drawOK X) (hR : Rel cfg D O0 ι s a w) {o : Oper} {p : PV} {id : Nat} {K : Act → World → Prop} {Q : Exit → Act → World → Prop} (h : newOf cfg X s.env o id = some (p, none))
    (hK : ∀ w', Grown w w' → p = .lit (.slice none 0 0) → K (a.put o.dst (.slice none 0 0)) w') : o.wp cfg.P a w K Q := by
  unfold newOf at h
  split at h
  · rename_i g xs hcal
    split at h
    · rename_i args hargs
      have hvals := evOs_sound (evO_sound hR) hargs
      unfold importA at h
      split at h
      · cases h
      rename_i hd
      split at h
      · split at h
        · split at h <;> cases h
        · cases h
      · rename_i hcall
        cases h
        have hI := Inv.empty hR.inv.base
        have hargs' : VL w (Owns (Owns O0 ι s.H) iota0 .e) iota0 args (xs.map a.eval) := VL.mono (O := Owns O0 ι s.H) ⟨fun b _ hb => ⟨fun hh => hb (hh.elim (fun h => h) fun ⟨id, ver, o, L, h, _⟩ => by cases h), rfl⟩, fun _ _ _ h => h⟩ _ _ (deepL_sound args hvals hd)
        refine wp_call (Φ := fun x w' => Grown w w' ∧ x = .slice none 0 0) ?_ ((callA_sound hC hX hI hargs' hcall).mono ?_) ?_
        · rw [run_callee hcal, enter_fn hC (callA_fns hcall)]
        · rintro e w' ⟨x, ι1, rfl, hI1, hS, hv⟩
          exact ⟨x, rfl, hS.grown0, V.lit_iff.1 hv⟩
        · rintro x w' ⟨h1, rfl⟩
          exact hK w' h1 rfl
      · cases h
    · cases h
  · split at h <;> cases h
end
end Go.Proofs.YthabndifdgafbaaGreatDoor.RV
end
section
set_option linter.constructorNameAsVariable false
namespace Go.Proofs.YthabndifdgafbaaGreatDoor.RV
open Go.RowKit (Below)
section
variable {cfg : Cfg} {O0 : Nat → Prop} {ι : Iota} {w : World} {s : St} {a : Act} {D : List Deferred} {drawOK : Cfg → FuncId → Array Oper → Bool} {X : Run}
theorem V.undefP {O : Nat → Prop} : V w O ι RV.undefP undef := V.tup_iff.2 ⟨#[], rfl, VL.nil_iff.2 rfl⟩
theorem effA_sound (hC : CfgOK cfg drawOK) (hX : XOK cfg drawOK X) (hR : Rel cfg D O0 ι s a w) {cur : FuncId} {ops : Array Oper} {base i : Nat} {o : Oper} {p : PV} {H' : Heap} {m' : Nat} {K : Act → World → Prop} {Q : Exit → Act → World → Prop}
    (ho : ops[i]? = some o) (h : effA cfg X cur ops base i o s.env s.H s.m = some (p, H', m'))
    (hK : ∀ x w' ι' (a0 : Act), a0.tmps = a.tmps → (∀ d ∈ a0.defers, quietD cfg d) → Inv cfg O0 ι' H' w' → Step ι s.H w ι' H' w' → V w' (Owns O0 ι' H') ι' p x → K (a0.put o.dst x) w') : wpOp cfg.P ops Q i K a w := by
  have hKd := hK
  replace hK := fun x w' ι' => hKd x w' ι' a rfl hR.defers
  have hO : ∀ b, Owns O0 ι s.H b → b < w.heap.size := fun b hb => hR.inv.owns_lt hb
  have hE := evO_sound hR
  have grown : H' = s.H → ∀ x w', Grown w w' → V w' (Owns O0 ι s.H) ι p x → K (a.put o.dst x) w' := fun e x w' hg hv => by
    subst e
    exact hK x w' ι (hR.inv.grown hg) hg.step hv
  unfold wpOp
  rw [ho]
  simp only [want_eq hR]
  unfold effA at h
  split at h
  · rename_i hw
    cases h
    rw [if_neg (by simp [hw])]
    exact hK undef w ι hR.inv .refl V.undefP
  · rename_i hw
    rw [if_pos (by simp [hw])]
    left
    split at h
    · -- pure
      split at h <;> cases h
      rename_i hp
      unfold effPure at hp
      split at hp
      · rename_i g xs hcal
        split at hp
        · rename_i args hargs
          obtain ⟨hc, hrun⟩ := pureCall_sound hC hX hR.inv.base (evOs_sound hE hargs) hp
          exact wp_call (by rw [run_callee hcal, hrun]) hc fun x w' ⟨hg, hv⟩ => grown rfl x w' hg hv.lift
        · cases hp
      · by_cases hdef : ∃ c, o.op = .defer c
        · obtain ⟨c, hop⟩ := hdef
          obtain ⟨dst, op, ty, pos, after, guard⟩ := o
          obtain ⟨callee, args, argTypes⟩ := c
          simp only at hop
          subst hop
          simp only [aopPure, quietA] at hp
          cases callee with
          | builtin b => cases hp
          | invoke r m => cases hp
          | value f =>
            skip
            cases hargs : args.toList with
            | cons x xs => rw [hargs] at hp; cases hp
            | nil =>
              rw [hargs] at hp
              have hargs : args = #[] := by simpa using hargs
              subst hargs
              simp only at hp
              split at hp
              · rename_i g first caps hf
                split at hp <;> cases hp
                rename_i hq
                obtain ⟨ys, xs, hff, hys, hxs⟩ := V.clo_iff.1 (hE f _ hf)
                have hrun : (execOp a.eval ⟨dst, .defer ⟨.value f, #[], argTypes⟩, ty, pos, after, guard⟩).run cfg.P w = .ok (.defer ⟨.fn (.func g) xs, ys ++ #[]⟩) w := by
                  simp [execOp, resolve, hff, Deferred.ofValue]
                unfold Oper.wp
                rw [hrun, Oper.upon_defer]
                refine hKd undef w ι { a with defers := ⟨.fn (.func g) xs, ys ++ #[]⟩ :: a.defers } rfl ?_ hR.inv .refl V.undefP
                intro d hd
                rcases List.mem_cons.1 hd with rfl | hd
                · exact ⟨g, xs, rfl, hq⟩
                · exact hR.defers d hd
              · cases hp
        · obtain ⟨x, w', hr, hg, hv⟩ := aopPure_sound (fun c hc => hdef ⟨c, hc⟩) hO hE hp
          exact wp_value hr (grown rfl x w' hg hv)
    · -- new
      split at h
      · rename_i q ob hnew
        split at h
        · rename_i hn
          cases h
          refine newOf_sound hC hX hR hnew fun x w' L hg hb hR2 => ?_
          have := hR.inv.new hn hg hb hR2
          exact hK x w' _ this.1 this.2.1 this.2.2
        · cases h
      · rename_i q hnew
        cases h
        exact newOf_nil_sound hC hX hR hnew fun w' hg hp => grown rfl _ w' hg (by rw [hp]; exact V.lit_iff.2 rfl)
      · cases h
    · -- read
      split at h <;> cases h
      rename_i hp
      unfold effRead at hp
      split at hp
      · rename_i g xs hcal
        split at hp
        · rename_i args hargs
          split at hp
          · rename_i args' hdeep
            split at hp
            · rename_i q hcall
              split at hp <;> cases hp
              rename_i hflat
              have hvals := deepenL_sound hR.inv (evOs_sound hE hargs) hdeep
              obtain ⟨hc, hrun⟩ := pureCall_sound (O := O0) hC hX hR.inv.base0 hvals hcall
              refine wp_call (Φ := fun x w' => Grown w w' ∧ V w' O0 iota0 p x) (by rw [run_callee hcal, hrun]) hc ?_
              exact fun x w' ⟨hg, hv⟩ => grown rfl x w' hg (flatB_sound p hv hflat)
            · cases hp
          · cases hp
        · cases hp
      · obtain ⟨x, hr, hv⟩ := aopRead_sound hR.inv hE hp
        exact wp_value hr (grown rfl x w .refl hv)
    · -- write
      split at h <;> cases h
      rename_i hp
      unfold effWrite at hp
      split at hp
      · rename_i hn
        split at hp <;> cases hp
        rename_i d hd
        obtain ⟨x, w', hdo, ι', h1, h2, h3⟩ := aopWrite_sound hR.inv hn hE hd
        exact wp_does hdo (hK x w' ι' h1 h2 h3)
      · cases hp
    · -- wild
      rename_i hcls
      clear hcls hw
      unfold effWild at h
      split at h
      rotate_left
      · cases h
      rename_i c hop
      split at h
      rotate_left
      · cases h
      rename_i f hcallee
      obtain ⟨dst, op, ty, pos, after, guard⟩ := o
      obtain ⟨callee, args, argTypes⟩ := c
      simp only at hop hcallee
      subst hop hcallee
      split at h
      · rename_i g first caps args' hf hargs
        obtain ⟨ys, xs, hff, hys, hxs⟩ := V.clo_iff.1 (hE f _ hf)
        have hvals : VL w (Owns O0 ι s.H) ι (first ++ (args' ++ caps)) (ys.toList ++ (args.toList.map a.eval ++ xs.toList)) := hys.append ((evOs_sound hE hargs).append hxs)
        have hrun : (execOp a.eval ⟨dst, .call ⟨.value f, args, argTypes⟩, ty, pos, after, guard⟩).run cfg.P w = (callFunc g (ys.toList ++ (args.toList.map a.eval ++ xs.toList)).toArray).run cfg.P w := by
          have e : (ys.toList ++ (args.toList.map a.eval ++ xs.toList)).toArray = ys ++ args.map a.eval ++ xs := by apply Array.ext'; simp
          rw [e]
          simp [execOp, resolve, hff, Deferred.ofValue, invoke]
        split at h
        · rename_i hm
          have hc := callA_sound hC hX hR.inv hvals h
          refine wp_call (Φ := fun x w' => ∃ ι', Inv cfg O0 ι' H' w' ∧ Step ι s.H w ι' H' w' ∧ V w' (Owns O0 ι' H') ι' p x) (by rw [hrun, enter_fn hC (callA_fns h)]) (hc.mono ?_) ?_
          · rintro e w' ⟨x, ι', rfl, r⟩
            exact ⟨x, rfl, ι', r⟩
          · rintro x w' ⟨ι', h1, h2, h3⟩
            exact hK x w' ι' h1 h2 h3
        · split at h <;> cases h
          rename_i hp
          obtain ⟨hc, hrun2⟩ := pureCall_sound hC hX hR.inv.base hvals hp
          exact wp_call (by rw [hrun, hrun2]) hc fun x w' ⟨hg, hv⟩ => grown rfl x w' hg hv.lift
      · cases h
theorem stepA_sound (hC : CfgOK cfg drawOK) (hX : XOK cfg drawOK X) (hR : Rel cfg D O0 ι s a w) {cur : FuncId} {ops : Array Oper} {base i : Nat} {o : Oper} {s' : St} {K : Act → World → Prop} {Q : Exit → Act → World → Prop}
    (ho : ops[i]? = some o) (h : stepA cfg X cur ops base i o s = some s') (hK : ∀ a' w' ι', Rel cfg D O0 ι' s' a' w' → Step ι s.H w ι' s'.H w' → K a' w') : wpOp cfg.P ops Q i K a w := by
  unfold stepA at h
  split at h
  · rename_i p H m heff
    refine effA_sound hC hX hR ho heff fun x w' ι' a0 ht hd h1 h2 h3 => ?_
    have hR0 : Rel cfg D O0 ι s a0 w := ⟨hR.inv, by rw [ht]; exact hR.env, by rw [ht]; exact hR.size, hR.sz, hd⟩
    obtain ⟨h4, h5⟩ := hR0.setD h2 h1 h3 h
    exact hK _ _ _ h4 (by rw [h5]; exact h2)
  · cases h
theorem runOps_sound (hC : CfgOK cfg drawOK) (hX : XOK cfg drawOK X) {cur : FuncId} {ops : Array Oper} {base : Nat} {Q : Exit → Act → World → Prop} {sf : St} : ∀ (os : List Oper) (i : Nat) {s : St} {a : Act} {w : World} {ι : Iota},
    Rel cfg D O0 ι s a w → (∀ j, os[j]? = ops[i + j]?) → runOps cfg X cur ops base os i s = some sf → (∀ a' w' ι', Rel cfg D O0 ι' sf a' w' → Step ι s.H w ι' sf.H w' → Q .normal a' w') → wpOps cfg.P ops Q (List.range' i os.length) a w
  | [], i, s, a, w, ι, hR, _, h, hQ => by
    simp only [runOps, Option.some.injEq] at h
    subst h
    exact hQ a w ι hR .refl
  | o :: os, i, s, a, w, ι, hR, hos, h, hQ => by
    unfold runOps at h
    split at h
    · rename_i s' hs
      have h0 : ops[i]? = some o := by simpa using (hos 0).symm
      rw [List.length_cons, List.range'_succ, wpOps_cons]
      refine stepA_sound hC hX hR h0 hs fun a' w' ι' hR' hS => ?_
      exact runOps_sound hC hX os (i + 1) hR' (fun j => by have := hos (j + 1); simpa [Nat.add_assoc, Nat.add_comm 1 j] using this) h (fun a2 w2 ι2 hR2 hS2 => hQ a2 w2 ι2 hR2 (hS.trans hS2))
    · cases h
end
end Go.Proofs.YthabndifdgafbaaGreatDoor.RV
end
