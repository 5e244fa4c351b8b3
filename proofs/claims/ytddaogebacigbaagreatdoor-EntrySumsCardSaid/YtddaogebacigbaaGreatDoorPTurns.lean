/- Lines in another order, and of the other sign: their sums. -/
import Derived.Test.YtddaogebacigbaaGreatDoorPWide
namespace Go.Proofs.YtddaogebacigbaaGreatDoor.PWide
open Go.RowKit Go.Proofs.YtddaogebacigbaaGreatDoorW.PrintWords Go.Proofs.YtddaogebacigbaaGreatDoorW.PrintLast Go.Proofs.YtddaogebacigbaaGreatDoor.XA Go.Proofs.YtddaogebacigbaaGreatDoor.XMap
set_option linter.unusedVariables false
set_option linter.unusedSimpArgs false
abbrev TL := S28
def negL (x : TL) : TL := ⟨x.f0, x.f1, x.f2, -x.f3⟩
theorem i64_in {n : Int} (h : (Lit.int .i64 n).wf = true) : -9223372036854775808 ≤ n ∧ n < 9223372036854775808 := by
  simp [Lit.wf, IntKind.min, IntKind.max, IntKind.bits, IntKind.signed] at h
  omega
theorem jsum_in (l : List TL) (h : ∀ x ∈ l, (Lit.int .i64 x.f3).wf = true) : AllIn (jsum l) := by
  intro x hx
  obtain ⟨y, hy, rfl⟩ := List.mem_map.1 hx
  exact (of_spec (i64_in (h y hy))).1
theorem turn_in (l : List TL) (h : ∀ x ∈ l, (Lit.int .i64 x.f3).wf = true) (n : Int) : InR (sumOf wadd (jsum l) n) := (sumOf_spec (jsum_in l h) n).1
theorem turn_swap (l : List TL) (i : Nat) (h : ∀ x ∈ l, (Lit.int .i64 x.f3).wf = true) (n : Int) : sumOf wadd (jsum (l.drop i ++ l.take i)) n = sumOf wadd (jsum l) n := by
  have e : jsum l = jsum (l.take i) ++ jsum (l.drop i) := by
    unfold jsum
    rw [← List.map_append, List.take_append_drop]
  have e2 : jsum (l.drop i ++ l.take i) = jsum (l.drop i) ++ jsum (l.take i) := List.map_append
  rw [e, e2]
  exact sumOf_swap (jsum_in _ (fun x hx => h x (List.mem_of_mem_take hx))) (jsum_in _ (fun x hx => h x (List.mem_of_mem_drop hx))) n
theorem wof_neg {n : Int} (h : (Lit.int .i64 n).wf = true) (h1 : n ≠ -9223372036854775808) : wof (-n) = wneg (wof n) := by
  have hr := i64_in h
  have a := of_spec (n := n) hr
  have b := of_spec (n := -n) (by omega)
  have c := neg_spec a.1
  refine N_inj b.1 c.1 ?_
  rw [b.2, c.2, a.2]
  omega
theorem turn_neg (l : List TL) (h : ∀ x ∈ l, (Lit.int .i64 x.f3).wf = true) (h1 : ∀ x ∈ l, x.f3 ≠ -9223372036854775808) (n : Int) : sumOf wadd (jsum (l.map negL)) n = wneg (sumOf wadd (jsum l) n) := by
  have e : jsum (l.map negL) = (jsum l).map (fun p => (p.1, wneg p.2)) := by
    unfold jsum
    rw [List.map_map, List.map_map]
    refine List.map_congr_left (fun x hx => ?_)
    show (x.f1, wof (-x.f3)) = (x.f1, wneg (wof x.f3))
    rw [wof_neg (h x hx) (h1 x hx)]
  have hin := jsum_in l h
  rw [e]
  refine sumOf_neg hin (fun p => (p.1, wneg p.2)) ?_ (fun x hx => ⟨rfl, (neg_spec (hin x hx)).2⟩) n
  intro x hx
  obtain ⟨y, hy, rfl⟩ := List.mem_map.1 hx
  exact (neg_spec (hin y hy)).1
/-- Two rows of sums with the same keys have the same number of keys. -/
theorem size_same {ad : Int × Int → Int × Int → Int × Int} {D E : DM} {a b : List (Int × (Int × Int))} (S : SumsOf ad D a) (T : SumsOf ad E b) (ED : ∃ es, D = .map es ∧ es.Pairwise (fun p q => p.1 ≠ q.1) ∧ ∀ p ∈ es, WideAt.IsKeyLit p.1) (EE : ∃ es, E = .map es ∧ es.Pairwise (fun p q => p.1 ≠ q.1) ∧ ∀ p ∈ es, WideAt.IsKeyLit p.1)
    (h : ∀ n, a.any (fun x => x.1 == n) = b.any (fun x => x.1 == n)) : Maps.size D = Maps.size E := by
  have hh : ∀ kl, Maps.has D kl = Maps.has E kl := by
    intro kl
    cases e : Maps.has D kl with
    | true =>
      obtain ⟨n, rfl⟩ := S.only kl e
      rw [T.has, ← h, ← S.has, e]
    | false =>
      cases e2 : Maps.has E kl with
      | false => rfl
      | true =>
        obtain ⟨n, rfl⟩ := T.only kl e2
        rw [S.has, h, ← T.has, e2] at e
        cases e
  obtain ⟨es, rfl, hp, hk⟩ := ED
  obtain ⟨fs, rfl, hq, hl⟩ := EE
  rw [Maps.size_eq, Maps.size_eq]
  have mem : ∀ (es : List (Lit × DM)), (∀ p ∈ es, WideAt.IsKeyLit p.1) → ∀ kl, Maps.has (.map es : DM) kl = true ↔ kl ∈ es.map (·.1) := by
    intro es hk kl
    rw [Maps.has_eq, List.any_eq_true]
    constructor
    · rintro ⟨p, hp, e⟩
      rw [← WideAt.sameKey_eq e]
      exact List.mem_map_of_mem hp
    · intro hm
      obtain ⟨p, hp, rfl⟩ := List.mem_map.1 hm
      exact ⟨p, hp, WideAt.sameKey_self (hk p hp)⟩
  have n1 : (es.map (·.1)).Nodup := List.pairwise_map.2 hp
  have n2 : (fs.map (·.1)).Nodup := List.pairwise_map.2 hq
  have pm : (es.map (·.1)).Perm (fs.map (·.1)) := (List.perm_ext_iff_of_nodup n1 n2).2 (fun kl => by rw [← mem es hk, ← mem fs hl, hh])
  have := pm.length_eq
  simpa using this
theorem any_perm (l : List TL) (i : Nat) (n : Int) : (jsum (l.drop i ++ l.take i)).any (fun x => x.1 == n) = (jsum l).any (fun x => x.1 == n) := by
  have e : jsum l = jsum (l.take i) ++ jsum (l.drop i) := by
    unfold jsum
    rw [← List.map_append, List.take_append_drop]
  have e2 : jsum (l.drop i ++ l.take i) = jsum (l.drop i) ++ jsum (l.take i) := List.map_append
  rw [e, e2, List.any_append, List.any_append, Bool.or_comm]
theorem any_neg (l : List TL) (n : Int) : (jsum (l.map negL)).any (fun x => x.1 == n) = (jsum l).any (fun x => x.1 == n) := by
  unfold jsum
  rw [List.map_map, List.any_map, List.any_map]
  rfl
end Go.Proofs.YtddaogebacigbaaGreatDoor.PWide
