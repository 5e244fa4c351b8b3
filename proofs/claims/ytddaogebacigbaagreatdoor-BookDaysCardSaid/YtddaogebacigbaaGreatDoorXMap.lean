/- Maps from entities to wide numbers, as a block holds them: what they tell of each key. No project text; no conditions. -/
import Derived.Maps.OwnSet
import Derived.Maps.RangeWalk
import Derived.Below
namespace Go.Proofs.YtddaogebacigbaaGreatDoor.XMap
open Go Go.Maps
set_option linter.unusedVariables false
abbrev DM := DataW Unit
def wideD (c : Int × Int) : DM := .agg [.lit (.int .i64 c.1), .lit (.int .u64 c.2)]
theorem wideD_inj {a b : Int × Int} (h : wideD a = wideD b) : a = b := by
  obtain ⟨a1, a2⟩ := a
  obtain ⟨b1, b2⟩ := b
  simp [wideD] at h
  rw [h.1, h.2]
/-- How a wide number in a map reads. -/
def wideR : Value → Option (DM × List MemPlace)
  | .agg cs => match cs.toList with
    | [.int .i64 a, .int .u64 b] => some (wideD (a, b), [])
    | _ => none
  | _ => none
theorem wideR_mk (a b : Int) : wideR (.agg #[.int .i64 a, .int .u64 b]) = some (wideD (a, b), []) := rfl
theorem wideR_inv {v : Value} {z : DM × List MemPlace} (h : wideR v = some z) : ∃ c : Int × Int, v = .agg #[.int .i64 c.1, .int .u64 c.2] ∧ z = (wideD c, []) := by
  unfold wideR at h
  split at h
  · rename_i cs
    obtain ⟨l⟩ := cs
    dsimp only at h
    split at h
    · rename_i a b
      exact ⟨(a, b), rfl, (Option.some.inj h).symm⟩
    · cases h
  · cases h
def key (n : Int) : Lit := .int .u16 n
theorem key_is (n : Int) : WideAt.IsKeyLit (key n) := trivial
theorem key_inj {a b : Int} (h : key a = key b) : a = b := by
  simp [key] at h
  exact h
/-- Of one key the sum: l: keys and summands, in their order. -/
def sumOf (ad : Int × Int → Int × Int → Int × Int) (l : List (Int × (Int × Int))) (n : Int) : Int × Int := l.foldl (fun s x => if x.1 = n then ad s x.2 else s) (0, 0)
structure SumsOf (ad : Int × Int → Int × Int → Int × Int) (D : DM) (l : List (Int × (Int × Int))) : Prop where
  tidy : Tidy D
  has : ∀ n, Maps.has D (key n) = l.any (fun x => x.1 == n)
  only : ∀ kl, Maps.has D kl = true → ∃ n, kl = key n
  at_ : ∀ n z, D.atKey (key n) z = if l.any (fun x => x.1 == n) = true then wideD (sumOf ad l n) else z
theorem SumsOf.empty (ad : Int × Int → Int × Int → Int × Int) : SumsOf ad (.map []) [] := ⟨tidy_empty, fun _ => rfl, fun _ h => by simp [has_eq] at h, fun _ _ => rfl⟩
theorem sumOf_snoc (ad : Int × Int → Int × Int → Int × Int) (l : List (Int × (Int × Int))) (x : Int × (Int × Int)) (n : Int) : sumOf ad (l ++ [x]) n = if x.1 = n then ad (sumOf ad l n) x.2 else sumOf ad l n := by
  unfold sumOf
  rw [List.foldl_append]
  rfl
theorem sumOf_none (ad : Int × Int → Int × Int → Int × Int) {n : Int} : ∀ (l : List (Int × (Int × Int))) (s : Int × Int), l.any (fun x => x.1 == n) = false → l.foldl (fun s x => if x.1 = n then ad s x.2 else s) s = s
  | [], s, _ => rfl
  | x :: l, s, h => by
    simp only [List.any_cons, Bool.or_eq_false_iff, beq_eq_false_iff_ne] at h
    rw [List.foldl_cons, if_neg h.1]
    exact sumOf_none ad l s h.2
theorem SumsOf.look {ad : Int × Int → Int × Int → Int × Int} {D : DM} {l : List (Int × (Int × Int))} (S : SumsOf ad D l) (n : Int) : D.atKey (key n) (wideD (0, 0)) = wideD (sumOf ad l n) := by
  rw [S.at_]
  split
  · rfl
  · rename_i h
    rw [show sumOf ad l n = (0, 0) from sumOf_none ad l _ ((Bool.not_eq_true _).mp h)]
theorem SumsOf.step {ad : Int × Int → Int × Int → Int × Int} {D : DM} {l : List (Int × (Int × Int))} (S : SumsOf ad D l) (x : Int × (Int × Int)) : SumsOf ad (D.put (key x.1) (wideD (ad (sumOf ad l x.1) x.2))) (l ++ [x]) where
  tidy := S.tidy.put (key_is _) _
  has n := by
    rw [List.any_append]
    by_cases h : x.1 = n
    · subst h
      rw [has_put_same S.tidy.isMap (key_is _)]
      simp
    · rw [has_put_other (fun e => h (key_inj e).symm), S.has]
      simp [h]
  only kl h := by
    by_cases e : kl = key x.1
    · exact ⟨_, e⟩
    · rw [has_put_other e] at h
      exact S.only kl h
  at_ n z := by
    rw [List.any_append, sumOf_snoc]
    by_cases h : x.1 = n
    · subst h
      rw [atKey_put_same S.tidy.isMap (key_is _), if_pos rfl, if_pos (by simp)]
    · rw [atKey_put_other (fun e => h (key_inj e).symm), S.at_, if_neg h]
      have hx : (x.1 == n) = false := beq_eq_false_iff_ne.2 h
      simp only [List.any_cons, List.any_nil, Bool.or_false, hx]
/-- All sums are nothing. -/
def allNone (ad : Int × Int → Int × Int → Int × Int) (l : List (Int × (Int × Int))) : Bool := l.all (fun x => sumOf ad l x.1 == (0, 0))
theorem allNone_iff {ad : Int × Int → Int × Int → Int × Int} {D : DM} {l : List (Int × (Int × Int))} (S : SumsOf ad D l) : allNone ad l = true ↔ ∀ n, Maps.has D (key n) = true → sumOf ad l n = (0, 0) := by
  unfold allNone
  rw [List.all_eq_true]
  constructor
  · intro h n hn
    rw [S.has, List.any_eq_true] at hn
    obtain ⟨x, hx, e⟩ := hn
    have := h x hx
    rw [beq_iff_eq] at this e
    rw [← e]
    exact this
  · intro h x hx
    rw [beq_iff_eq]
    refine h _ ?_
    rw [S.has, List.any_eq_true]
    exact ⟨x, hx, by simp⟩
theorem size_one {ad : Int × Int → Int × Int → Int × Int} {D : DM} {l : List (Int × (Int × Int))} (S : SumsOf ad D l) (E : ∃ es, D = .map es ∧ es.Pairwise (fun p q => p.1 ≠ q.1) ∧ ∀ p ∈ es, WideAt.IsKeyLit p.1) {n : Int} (h1 : ∀ x ∈ l, x.1 = n) (h2 : l ≠ []) : Maps.size D = 1 := by
  have hh := S.has n
  have ho := S.only
  have ha := S.has
  obtain ⟨es, rfl, hp, hk0⟩ := E
  have hall : ∀ p ∈ es, p.1 = key n := fun p hx => by
    have hs := WideAt.sameKey_self (hk0 p hx)
    obtain ⟨m, e⟩ := ho p.1 (by rw [has_eq, List.any_eq_true]; exact ⟨p, hx, hs⟩)
    have hm : Maps.has (.map es : DM) (key m) = true := by
      rw [has_eq, List.any_eq_true]
      exact ⟨p, hx, by rw [e]; exact WideAt.sameKey_self (key_is m)⟩
    rw [ha, List.any_eq_true] at hm
    obtain ⟨x, hx1, hx2⟩ := hm
    rw [e, ← h1 x hx1, beq_iff_eq.1 hx2]
  have hne : es ≠ [] := by
    rintro rfl
    rw [has_eq] at hh
    obtain ⟨x, hx⟩ := List.exists_mem_of_ne_nil l h2
    have : l.any (fun x => x.1 == n) = true := List.any_eq_true.2 ⟨x, hx, beq_iff_eq.2 (h1 x hx)⟩
    rw [this] at hh
    simp at hh
  rw [size_eq]
  match es, hp, hall, hne with
  | [p], _, _, _ => rfl
  | p :: q :: r, hp, hall, _ =>
    have h3 := (List.pairwise_cons.1 hp).1 q List.mem_cons_self
    exact absurd ((hall p List.mem_cons_self).trans (hall q (by simp)).symm) h3
theorem own_below {P : Program} {k : TypeId} {R : Value → Option (DM × List MemPlace)} {b n : Nat} {D : DM} {w w' : World} (h : w.ownsMap P k R b n D) (hb : RowKit.Below w.heap.size w w') : w'.ownsMap P k R b n D := by
  have hl := h.lt
  obtain ⟨es, c, h1, r⟩ := h
  exact ⟨es, c, (hb.block b hl).trans h1, r⟩
theorem ranges_drew {P : Program} {k : TypeId} {R : Value → Option (DM × List MemPlace)} {b r n : Nat} {D : DM} {left : Lit → Bool} {cnt : Nat} {w : World} (h : w.ranges P k R b r n D left cnt) : w.drew.ranges P k R b r n D left cnt := h
theorem ranges_below {P : Program} {k : TypeId} {R : Value → Option (DM × List MemPlace)} {b r n : Nat} {D : DM} {left : Lit → Bool} {cnt : Nat} {w w' : World} (h : w.ranges P k R b r n D left cnt) (hb : RowKit.Below w.heap.size w w') : w'.ranges P k R b r n D left cnt := by
  have h1 := h.owns.lt
  have h2 := h.lt
  obtain ⟨es, clock, since, seen, c0, hb1, F, hs, hD, hr, rest⟩ := h
  exact ⟨es, clock, since, seen, c0, (hb.block b h1).trans hb1, F, hs, hD, (hb.block r h2).trans hr, rest⟩
theorem run_lookup {P : Program} {k e t : TypeId} {b n : Nat} {D : DM} {w : World} (h : w.ownsMap P k wideR b n D) (Kk : Keyed P k) (ht : P.underlying t = some (.map k e)) (hz : (zeroValue e).run P w = .ok (.agg #[.int .i64 0, .int .u64 0]) w) {ky : Value} {kl : Lit} (hkey : keyOf P k ky = some kl) {c : Int × Int} (hc : D.atKey kl (wideD (0, 0)) = wideD c) :
    (Instr.lookup t (.map (some b)) ky false).run P w = .ok (.agg #[.int .i64 c.1, .int .u64 c.2]) w := by
  obtain ⟨v, ps, hrun, hv⟩ := h.lookup Kk ht hz (wideR_mk 0 0) hkey
  obtain ⟨c', rfl, hc'⟩ := wideR_inv hv
  have e : c' = c := wideD_inj ((congrArg Prod.fst hc').symm.trans hc)
  subst e
  exact hrun
/-! ### at the operations -/
section
variable {P : Program} {ops : Array Oper} {rest : List Oper} {o : Oper} {a : Act} {w : World} {K : Act → World → Prop} {Q : Exit → Act → World → Prop} {E : Prop}
theorem wp_lookup (m x : Operand) (t : TypeId) (hop : o.op = Op.lookup t m x false) (k e : TypeId) (Kk : Keyed P k) (ht : P.underlying t = some (.map k e)) (hz : (zeroValue e).run P w = .ok (.agg #[.int .i64 0, .int .u64 0]) w) (b n : Nat) (D : DM)
    (hm : a.eval m = .map (some b)) (hown : w.ownsMap P k wideR b n D) (ky : Value) (kl : Lit) (hx : a.eval x = ky) (hkey : keyOf P k ky = some kl)
    (hK : ∀ c : Int × Int, D.atKey kl (wideD (0, 0)) = wideD c → K (a.put o.dst (.agg #[.int .i64 c.1, .int .u64 c.2])) w) : o.wp P a w K Q := by
  obtain ⟨v, ps, hrun, hv⟩ := hown.lookup Kk ht hz (wideR_mk 0 0) hkey
  obtain ⟨c, rfl, hc⟩ := wideR_inv hv
  unfold Oper.wp
  simp [execOp, hop, hm, hx, hrun, Result.andThen]
  exact hK c (congrArg Prod.fst hc)
theorem step_lookup (hg : o.guard = none) (m x : Operand) (t : TypeId) (hop : o.op = Op.lookup t m x false) (k e : TypeId) (Kk : Keyed P k) (ht : P.underlying t = some (.map k e)) (hz : (zeroValue e).run P w = .ok (.agg #[.int .i64 0, .int .u64 0]) w) (b n : Nat) (D : DM)
    (hm : a.eval m = .map (some b)) (hown : w.ownsMap P k wideR b n D) (ky : Value) (kl : Lit) (hx : a.eval x = ky) (hkey : keyOf P k ky = some kl)
    (hK : ∀ c : Int × Int, D.atKey kl (wideD (0, 0)) = wideD c → K (a.put o.dst (.agg #[.int .i64 c.1, .int .u64 c.2])) w) : if Region.wanted o (yielded ops a.tmps) = true then Oper.wp P o a w K Q else E := by
  have hw : Region.wanted o (yielded ops a.tmps) = true := by simp [Region.wanted, hg]
  rw [if_pos hw]
  exact wp_lookup m x t hop k e Kk ht hz b n D hm hown ky kl hx hkey hK
theorem wp_update (m x v : Operand) (t : TypeId) (hop : o.op = Op.mapUpdate t m x v) (k e : TypeId) (Kk : Keyed P k) (ht : P.underlying t = some (.map k e)) (b n : Nat) (D : DM)
    (hm : a.eval m = .map (some b)) (hown : w.ownsMap P k wideR b n D) (hn : n < maxLen) (ky : Value) (kl : Lit) (hx : a.eval x = ky) (hkey : keyOf P k ky = some kl) (c : Int × Int) (hv : a.eval v = .agg #[.int .i64 c.1, .int .u64 c.2])
    (hK : ∀ w', w'.ownsMap P k wideR b (n + 1) (D.put kl (wideD c)) → w.grownBy w' (some b) → K (a.put o.dst undef) w') : o.wp P a w K Q := by
  obtain ⟨w', hrun, r1, r2⟩ := hown.update Kk ht hn hkey (wideR_mk c.1 c.2)
  unfold Oper.wp
  simp [execOp, hop, hm, hx, hv, hrun, Result.andThen]
  exact hK w' r1 r2
theorem step_update (hg : o.guard = none) (m x v : Operand) (t : TypeId) (hop : o.op = Op.mapUpdate t m x v) (k e : TypeId) (Kk : Keyed P k) (ht : P.underlying t = some (.map k e)) (b n : Nat) (D : DM)
    (hm : a.eval m = .map (some b)) (hown : w.ownsMap P k wideR b n D) (hn : n < maxLen) (ky : Value) (kl : Lit) (hx : a.eval x = ky) (hkey : keyOf P k ky = some kl) (c : Int × Int) (hv : a.eval v = .agg #[.int .i64 c.1, .int .u64 c.2])
    (hK : ∀ w', w'.ownsMap P k wideR b (n + 1) (D.put kl (wideD c)) → w.grownBy w' (some b) → K (a.put o.dst undef) w') : if Region.wanted o (yielded ops a.tmps) = true then Oper.wp P o a w K Q else E := by
  have hw : Region.wanted o (yielded ops a.tmps) = true := by simp [Region.wanted, hg]
  rw [if_pos hw]
  exact wp_update m x v t hop k e Kk ht b n D hm hown hn ky kl hx hkey c hv hK
structure NoneLeft (left : Lit → Bool) : Prop where
  is : ∀ kl, left kl = false
/-- An entry has come. -/
structure Came (P : Program) (k : TypeId) (b r n : Nat) (D : DM) (left : Lit → Bool) (cnt : Nat) (w : World) (x : Int) (c : Int × Int) (w' : World) (cnt' : Nat) : Prop where
  wf : (Lit.int .u16 x).wf = true
  at_ : ∀ zd, D.atKey (key x) zd = wideD c
  ranges : w'.ranges P k wideR b r n D (fun z => left z && !z.sameKey (key x)) cnt'
  less : cnt' < cnt
  grown : w.grownBy w' (some r)
theorem wpList_next_wide (hg : o.guard = none) (it : Operand) (hop : o.op = Op.next it false) (k : TypeId) (Kk : Keyed P k) (hk : P.underlying k = some (.int .u16)) (b r n : Nat) (D : DM) (left : Lit → Bool) (cnt : Nat)
    (hit : a.eval it = .pointer (some ⟨r, 0, none⟩)) (h : w.ranges P k wideR b r n D left cnt)
    (hDone : NoneLeft left → wpList P ops Q rest (a.put o.dst (.tuple #[.bool false])) w)
    (hMore : ∀ (x a1 a2 : Int) (w' : World) (cnt' : Nat), Came P k b r n D left cnt w x (a1, a2) w' cnt' → (Instr.entry (.pointer (some ⟨r, 0, none⟩))).run P w' = .ok (.tuple #[.int .u16 x, .agg #[.int .i64 a1, .int .u64 a2]]) w' → wpList P ops Q rest (a.put o.dst (.tuple #[.bool true, .int .u16 x, .agg #[.int .i64 a1, .int .u64 a2]])) w') :
    wpList P ops Q (o :: rest) a w := by
  refine wpList_next_ranges w hg it hop k Kk wideR (Value.int .u16) (fun c : Int × Int => .agg #[.int .i64 c.1, .int .u64 c.2]) (fun ky kl hkey => by obtain ⟨x, rfl, _⟩ := Maps.keyOf_int_inv hk hkey; exact ⟨x, rfl⟩) (fun v y hv => by obtain ⟨c, rfl, _⟩ := wideR_inv hv; exact ⟨c, rfl⟩) b r n D left cnt hit h (fun _ hl => hDone ⟨hl⟩) (fun x c kl y w' cnt' hkey hlk hv hat hrg hlt hgr hsz hen => ?_)
  obtain ⟨x', ex, rfl, hwx⟩ := Maps.keyOf_int_inv hk hkey
  cases ex
  have hy : some (wideD (c.1, c.2), []) = some y := hv
  obtain rfl := Option.some.inj hy
  exact hMore x c.1 c.2 w' cnt' ⟨hwx, hat, hrg, hlt, hgr⟩ hen
end
end Go.Proofs.YtddaogebacigbaaGreatDoor.XMap
